/- Plain laws of the light in a window, of what is wrong with moments that are asked, and of windows compared. -/
import Derived.Test.YtonnpocamipbiaaLGreyFollowedwins
namespace Go.Proofs.Ytonnpocamipbiaa.PGreyFollowed
open Go.RowKit Go.Proofs.YtonnpocamipbiaaW.PrintWords Go.Proofs.YtonnpocamipbiaaW.PrintLast
set_option linter.unusedSimpArgs false
def lightV (g : Int → Bool) (ev : Int) : Nat → Int → Int → Int
  | 0, a, _ => a
  | m + 1, a, t => lightV g ev m (if g t = true then a + ev else a) (t + ev)
theorem Light_run (n e fr en ev : Int) (he : 1 ≤ ev) (he2 : ev ≤ 86400000) (hf : 0 ≤ fr) (hto : en ≤ 345686400000) : ∀ (m : Nat) (a t : Int) (k : Nat), fr ≤ t → cnt en ev m t → 0 ≤ a → a ≤ t - fr → m + 3 ≤ k →
    place_Light.l0 k ev a t n e fr en = some (mn (lightV (fun t => decide (sunV n e t > 0)) ev m a t) (wrap64 (en - fr)), 0) := by
  intro m
  induction m with
  | zero =>
    intro a t k h0 hc ha hb hk
    obtain ⟨k, rfl⟩ : ∃ q, k = q + 1 := ⟨k - 1, by omega⟩
    have hc2 : en ≤ t := hc
    simp only [place_Light.l0]
    rw [if_neg (by omega)]
    rfl
  | succ m ih =>
    intro a t k h0 hc ha hb hk
    obtain ⟨k, rfl⟩ : ∃ q, k = q + 3 := ⟨k - 3, by omega⟩
    obtain ⟨h1, hc2⟩ : t < en ∧ cnt en ev m (t + ev) := hc
    simp only [place_Light.l0]
    rw [if_pos h1, sun_eq n e t k]
    simp only [Option.bind_some, lightV, decide_eq_true_eq]
    rw [wrap_id (e := t + ev) (by omega) (by omega)]
    by_cases c : sunV n e t > 0
    · rw [if_pos c, if_pos c, wrap_id (e := a + ev) (by omega) (by omega)]
      exact ih _ _ (k + 2) (by omega) hc2 (by omega) (by omega) (by omega)
    · rw [if_neg c, if_neg c]
      exact ih _ _ (k + 2) (by omega) hc2 (by omega) (by omega) (by omega)
theorem LightOf_run (n e fr en ev : Int) (he : 1 ≤ ev) (he2 : ev ≤ 86400000) (hf : 0 ≤ fr) (hto : en ≤ 345686400000) : ∀ (m : Nat) (c t : Int) (k : Nat), fr ≤ t → t ≤ 345686400000 + 86400000 → cnt en ev m t → 0 ≤ c → c ≤ t - fr → 0 ≤ c * ev → c * ev ≤ t - fr → m + 3 ≤ k →
    pileref1_LightOf.l0 k ev c t n e fr en = some (mn (lightV (fun t => decide (sunV n e t > 0)) ev m (c * ev) t) (wrap64 (en - fr))) := by
  intro m
  induction m with
  | zero =>
    intro c t k h0 ht hc ha hb hd hg hk
    obtain ⟨k, rfl⟩ : ∃ q, k = q + 1 := ⟨k - 1, by omega⟩
    have hc2 : en ≤ t := hc
    simp only [pileref1_LightOf.l0]
    rw [if_neg (by omega), wrap_id (e := c * ev) (by omega) (by omega)]
    rfl
  | succ m ih =>
    intro c t k h0 ht hc ha hb hd hg hk
    obtain ⟨k, rfl⟩ : ∃ q, k = q + 3 := ⟨k - 3, by omega⟩
    obtain ⟨h1, hc2⟩ : t < en ∧ cnt en ev m (t + ev) := hc
    have hm : (c + 1) * ev = c * ev + ev := by rw [Int.add_mul, Int.one_mul]
    simp only [pileref1_LightOf.l0]
    rw [if_pos h1, SunOf_eq n e t k]
    simp only [Option.bind_some, lightV, decide_eq_true_eq]
    rw [wrap_id (e := t + ev) (by omega) (by omega)]
    by_cases d : sunV n e t > 0
    · rw [if_pos d, if_pos d, wrap_id (e := c + 1) (by omega) (by omega), ← hm]
      exact ih _ _ (k + 2) (by omega) (by omega) hc2 (by omega) (by omega) (by omega) (by omega) (by omega)
    · rw [if_neg d, if_neg d]
      exact ih _ _ (k + 2) (by omega) (by omega) hc2 (by omega) (by omega) (by omega) (by omega) (by omega)
/-- What is wrong with moments that are asked. -/
def askV (fr en ev : Int) : Int :=
  if (0 ≤ fr ∧ fr ≤ en ∧ en ≤ 345686400000) ∧ 1000 ≤ ev ∧ ev ≤ 86400000 then (if (wrap64 (Int.tdiv (wrap64 ((wrap64 ((wrap64 (en - fr)) + ev)) - 1)) ev)) > 20000 then 2 else 0) else 1
theorem IsWindow_eq (fr en : Int) : kit_IsWindow.f fr en = some (decide (0 ≤ fr ∧ fr ≤ en ∧ en ≤ 345686400000)) := by
  unfold kit_IsWindow.f
  rw [Outside_eq]
  simp only [Option.bind_some, decide_eq_true_eq]
  by_cases h : fr < 0 ∨ en < fr
  · rw [if_pos h]
    have : ¬ (0 ≤ fr ∧ fr ≤ en ∧ en ≤ 345686400000) := by omega
    simp [this]
  · rw [if_neg h]
    by_cases h2 : en ≤ 345686400000
    · have : 0 ≤ fr ∧ fr ≤ en ∧ en ≤ 345686400000 := by omega
      simp [h2, this]
    · have : ¬ (0 ≤ fr ∧ fr ≤ en ∧ en ≤ 345686400000) := by omega
      simp [h2]
theorem askedFault_eq (fr en ev : Int) (k : Nat) : place_askedFault.f (k + 1) fr en ev = some (askV fr en ev) := by
  unfold place_askedFault.f askV
  rw [IsWindow_eq]
  simp only [Option.bind_some, decide_eq_true_eq]
  by_cases h : 0 ≤ fr ∧ fr ≤ en ∧ en ≤ 345686400000
  · rw [if_pos h, Outside_eq]
    simp only [Option.bind_some, place_askedFault.j0, decide_eq_true_eq]
    by_cases h2 : ev < 1000 ∨ 86400000 < ev
    · rw [if_pos h2, if_neg (show ¬ ((0 ≤ fr ∧ fr ≤ en ∧ en ≤ 345686400000) ∧ 1000 ≤ ev ∧ ev ≤ 86400000) by omega)]
    · rw [if_neg h2, if_neg (show ¬ ev = 0 by omega), if_pos (show (0 ≤ fr ∧ fr ≤ en ∧ en ≤ 345686400000) ∧ 1000 ≤ ev ∧ ev ≤ 86400000 by omega)]
      split <;> rfl
  · rw [if_neg h, if_neg (show ¬ ((0 ≤ fr ∧ fr ≤ en ∧ en ≤ 345686400000) ∧ 1000 ≤ ev ∧ ev ≤ 86400000) by omega)]
    simp only [place_askedFault.j0, if_true]
theorem AskedFault_eq (fr en ev : Int) (k : Nat) : pileref1_AskedFault.f (k + 1) fr en ev = some (askV fr en ev) := by
  unfold pileref1_AskedFault.f askV
  by_cases h1 : fr < 0
  · rw [if_pos h1, if_neg (by omega)]
    simp only [pileref1_AskedFault.j0, if_true]
  rw [if_neg h1]
  by_cases h2 : fr > en
  · rw [if_pos h2, if_neg (by omega)]
    simp only [pileref1_AskedFault.j0, if_true]
  rw [if_neg h2]
  by_cases h3 : en > 345686400000
  · rw [if_pos h3, if_neg (by omega)]
    simp only [pileref1_AskedFault.j0, if_true]
  rw [if_neg h3, in_eq]
  simp only [Option.bind_some, pileref1_AskedFault.j0]
  by_cases h4 : 1000 ≤ ev ∧ ev ≤ 86400000
  · rw [if_pos (show (0 ≤ fr ∧ fr ≤ en ∧ en ≤ 345686400000) ∧ 1000 ≤ ev ∧ ev ≤ 86400000 by omega), if_neg (by simp [h4]), if_neg (show ¬ ev = 0 by omega)]
    split <;> rfl
  · rw [if_neg (show ¬ ((0 ≤ fr ∧ fr ≤ en ∧ en ≤ 345686400000) ∧ 1000 ≤ ev ∧ ev ≤ 86400000) by omega), if_pos (by simp only [h4, decide_false, Bool.not_false])]
theorem WindowSame (l : List S48) (hl : l.length ≤ 1000000000000) (d : Nat) : ∀ (k i : Nat), i + d = l.length → d < k → api_Window.l0 k l l (l.length : Int) i = some true := by
  induction d with
  | zero =>
    intro k i hi hk
    obtain ⟨k, rfl⟩ : ∃ m, k = m + 1 := ⟨k - 1, by omega⟩
    simp only [api_Window.l0]
    rw [if_neg (by omega)]
  | succ d ih =>
    intro k i hi hk
    obtain ⟨k, rfl⟩ : ∃ m, k = m + 1 := ⟨k - 1, by omega⟩
    simp only [api_Window.l0]
    rw [if_pos (by omega), if_pos (by omega), if_pos (by omega), if_pos (by omega), if_neg (by simp), wrap_id (by omega) (by omega)]
    exact ih k (i + 1) (by omega) (by omega)
theorem Window_same (l : List S48) (k : Nat) (hl : l.length ≤ 1000000000000) (hk : l.length < k) : api_Window.f k l l = some true := by
  have h := WindowSame l hl l.length k 0 (by omega) hk
  unfold api_Window.f
  rw [if_pos rfl]
  exact h
end Go.Proofs.Ytonnpocamipbiaa.PGreyFollowed
