/- Plain laws of the windows in which something is so: the program asks once a step, the document's reference twice; both come to one list. -/
import Derived.Test.YtonnpocamipbiaaLGreyFollowedcos
namespace Go.Proofs.Ytonnpocamipbiaa.PGreyFollowed
open Go.RowKit Go.Proofs.YtonnpocamipbiaaW.PrintWords Go.Proofs.YtonnpocamipbiaaW.PrintLast
set_option linter.unusedSimpArgs false
/-- From a moment on, so many steps are ahead of the end. -/
def cnt (en ev : Int) : Nat → Int → Prop
  | 0, t => en ≤ t
  | m + 1, t => t < en ∧ cnt en ev m (t + ev)
theorem cnt_ex (en ev : Int) (h : 1 ≤ ev) : ∀ (N : Nat) (t : Int), en ≤ t + N → ∃ m, m ≤ N ∧ cnt en ev m t := by
  intro N
  induction N with
  | zero => exact fun t h1 => ⟨0, Nat.le_refl _, by simpa [cnt] using h1⟩
  | succ N ih =>
    intro t h1
    by_cases c : en ≤ t
    · exact ⟨0, by omega, c⟩
    · obtain ⟨m, hm, hc⟩ := ih (t + ev) (by omega)
      exact ⟨m + 1, by omega, by omega, hc⟩
/-- One step of the windows: one begins, one ends, or nothing turns. -/
def stepW (g : Int → Bool) (en : Int) (xs : List S48) (b : Bool) (t : Int) : List S48 :=
  match g t, b with
  | true, false => xs ++ [(⟨t, en⟩ : S48)]
  | false, true => xs.set (wrap64 ((xs.length : Int) - 1)).toNat (⟨(rd_T48 xs (wrap64 ((xs.length : Int) - 1))).f0, t⟩ : S48)
  | _, _ => xs
def runW (g : Int → Bool) (en ev : Int) : Nat → List S48 → Bool → Int → List S48
  | 0, xs, _, _ => xs
  | m + 1, xs, b, t => runW g en ev m (stepW g en xs b t) (g t) (t + ev)
theorem stepW_len (g : Int → Bool) (en : Int) (xs : List S48) (b : Bool) (t : Int) : (stepW g en xs b t).length ≤ xs.length + 1 := by
  unfold stepW
  split <;> simp
theorem stepW_ne (g : Int → Bool) (en : Int) (xs : List S48) (b : Bool) (t : Int) (h : b = true → xs ≠ []) : g t = true → stepW g en xs b t ≠ [] := by
  intro hg
  unfold stepW
  rw [hg]
  cases b with
  | true => simpa using h rfl
  | false => simp
theorem runW_len (g : Int → Bool) (en ev : Int) : ∀ (m : Nat) (xs : List S48) (b : Bool) (t : Int), (runW g en ev m xs b t).length ≤ xs.length + m := by
  intro m
  induction m with
  | zero => exact fun xs _ _ => Nat.le_refl _
  | succ m ih =>
    intro xs b t
    have h1 := ih (stepW g en xs b t) (g t) (t + ev)
    have h2 := stepW_len g en xs b t
    simp only [runW]
    omega
theorem ptOne_eq (t n e w : Int) (k : Nat) : place_GreyTimes_1.f (k + 2) t n e w = some (greyV n e t w) := by
  unfold place_GreyTimes_1.f
  rw [grey_eq]
  rfl
theorem ptOne_step (n e w fr en ev : Int) (he : 1 ≤ ev) (he2 : ev ≤ 86400000) (hto : en ≤ 345686400000) (xs : List S48) (b : Bool) (t : Int) (k : Nat) (h0 : 0 ≤ t) (h1 : t < en) (hx : xs.length ≤ 400000000000) (hb : b = true → xs ≠ []) :
    place_times_of_place_GreyTimes_1.l0 (k + 4) ev xs b t n e w fr en = place_times_of_place_GreyTimes_1.l0 (k + 2) ev (stepW (fun t => greyV n e t w) en xs b t) ((fun t => greyV n e t w) t) (t + ev) n e w fr en := by
  have q1 := ptOne_eq t n e w (k + 1)
  have q2 := ptOne_eq t n e w k
  have q3 : wrap64 (t + ev) = t + ev := wrap_id (by omega) (by omega)
  have hl : xs.length < 8796093022208 := by omega
  conv => lhs; simp only [place_times_of_place_GreyTimes_1.l0]
  rw [if_pos h1, q1]
  simp only [Option.bind_some]
  unfold stepW
  dsimp only
  generalize greyV n e t w = c at *
  cases c <;> cases b
  · simp only [place_times_of_place_GreyTimes_1.j1, q2, q3, Bool.not_false, Bool.not_true, Bool.false_eq_true, if_false, if_true, Option.bind_some]
  · have hne := hb rfl
    have hpos : 0 < xs.length := List.length_pos_iff.2 hne
    have q4 : wrap64 ((xs.length : Int) - 1) = (xs.length : Int) - 1 := wrap_id (by omega) (by omega)
    simp only [place_times_of_place_GreyTimes_1.j1, q2, q3, Bool.not_false, Bool.not_true, Bool.false_eq_true, if_false, if_true, Option.bind_some]
    rw [if_pos (by rw [q4]; omega), if_pos (by rw [q4]; omega)]
  · simp only [place_times_of_place_GreyTimes_1.j1, q2, q3, Bool.not_false, Bool.not_true, Bool.false_eq_true, if_false, if_true, Option.bind_some, if_pos hl]
  · simp only [place_times_of_place_GreyTimes_1.j1, q2, q3, Bool.not_false, Bool.not_true, Bool.false_eq_true, if_false, if_true, Option.bind_some]
theorem ptOne_run (n e w fr en ev : Int) (he : 1 ≤ ev) (he2 : ev ≤ 86400000) (hto : en ≤ 345686400000) : ∀ (m : Nat) (xs : List S48) (b : Bool) (t : Int) (k : Nat), 0 ≤ t → cnt en ev m t → xs.length + m ≤ 400000000000 → (b = true → xs ≠ []) → 2 * m + 2 ≤ k →
    place_times_of_place_GreyTimes_1.l0 k ev xs b t n e w fr en = some (runW (fun t => greyV n e t w) en ev m xs b t) := by
  intro m
  induction m with
  | zero =>
    intro xs b t k h0 hc hx hb hk
    obtain ⟨k, rfl⟩ : ∃ q, k = q + 1 := ⟨k - 1, by omega⟩
    have hc2 : en ≤ t := hc
    simp only [place_times_of_place_GreyTimes_1.l0]
    rw [if_neg (by omega)]
    rfl
  | succ m ih =>
    intro xs b t k h0 hc hx hb hk
    obtain ⟨k, rfl⟩ : ∃ q, k = q + 4 := ⟨k - 4, by omega⟩
    obtain ⟨h1, hc2⟩ : t < en ∧ cnt en ev m (t + ev) := hc
    rw [ptOne_step n e w fr en ev he he2 hto xs b t k h0 h1 (by omega) hb]
    have h2 := stepW_len (fun t => greyV n e t w) en xs b t
    exact ih _ _ _ (k + 2) (by omega) hc2 (by omega) (stepW_ne (fun t => greyV n e t w) en xs b t hb) (by omega)
theorem ptTwo_eq (t n e w n2 e2 : Int) (k : Nat) : place_BothGrey_1.f (k + 2) t n e w n2 e2 = some ((greyV n e t w && greyV n2 e2 t w)) := by
  unfold place_BothGrey_1.f
  rw [grey_eq n e t w, grey_eq n2 e2 t w]
  cases greyV n e t w <;> rfl
theorem ptTwo_step (n e w n2 e2 fr en ev : Int) (he : 1 ≤ ev) (he2 : ev ≤ 86400000) (hto : en ≤ 345686400000) (xs : List S48) (b : Bool) (t : Int) (k : Nat) (h0 : 0 ≤ t) (h1 : t < en) (hx : xs.length ≤ 400000000000) (hb : b = true → xs ≠ []) :
    place_times_of_place_BothGrey_1.l0 (k + 4) ev xs b t n e w n2 e2 fr en = place_times_of_place_BothGrey_1.l0 (k + 2) ev (stepW (fun t => greyV n e t w && greyV n2 e2 t w) en xs b t) ((fun t => greyV n e t w && greyV n2 e2 t w) t) (t + ev) n e w n2 e2 fr en := by
  have q1 := ptTwo_eq t n e w n2 e2 (k + 1)
  have q2 := ptTwo_eq t n e w n2 e2 k
  have q3 : wrap64 (t + ev) = t + ev := wrap_id (by omega) (by omega)
  have hl : xs.length < 8796093022208 := by omega
  conv => lhs; simp only [place_times_of_place_BothGrey_1.l0]
  rw [if_pos h1, q1]
  simp only [Option.bind_some]
  unfold stepW
  dsimp only
  generalize (greyV n e t w && greyV n2 e2 t w) = c at *
  cases c <;> cases b
  · simp only [place_times_of_place_BothGrey_1.j1, q2, q3, Bool.not_false, Bool.not_true, Bool.false_eq_true, if_false, if_true, Option.bind_some]
  · have hne := hb rfl
    have hpos : 0 < xs.length := List.length_pos_iff.2 hne
    have q4 : wrap64 ((xs.length : Int) - 1) = (xs.length : Int) - 1 := wrap_id (by omega) (by omega)
    simp only [place_times_of_place_BothGrey_1.j1, q2, q3, Bool.not_false, Bool.not_true, Bool.false_eq_true, if_false, if_true, Option.bind_some]
    rw [if_pos (by rw [q4]; omega), if_pos (by rw [q4]; omega)]
  · simp only [place_times_of_place_BothGrey_1.j1, q2, q3, Bool.not_false, Bool.not_true, Bool.false_eq_true, if_false, if_true, Option.bind_some, if_pos hl]
  · simp only [place_times_of_place_BothGrey_1.j1, q2, q3, Bool.not_false, Bool.not_true, Bool.false_eq_true, if_false, if_true, Option.bind_some]
theorem ptTwo_run (n e w n2 e2 fr en ev : Int) (he : 1 ≤ ev) (he2 : ev ≤ 86400000) (hto : en ≤ 345686400000) : ∀ (m : Nat) (xs : List S48) (b : Bool) (t : Int) (k : Nat), 0 ≤ t → cnt en ev m t → xs.length + m ≤ 400000000000 → (b = true → xs ≠ []) → 2 * m + 2 ≤ k →
    place_times_of_place_BothGrey_1.l0 k ev xs b t n e w n2 e2 fr en = some (runW (fun t => greyV n e t w && greyV n2 e2 t w) en ev m xs b t) := by
  intro m
  induction m with
  | zero =>
    intro xs b t k h0 hc hx hb hk
    obtain ⟨k, rfl⟩ : ∃ q, k = q + 1 := ⟨k - 1, by omega⟩
    have hc2 : en ≤ t := hc
    simp only [place_times_of_place_BothGrey_1.l0]
    rw [if_neg (by omega)]
    rfl
  | succ m ih =>
    intro xs b t k h0 hc hx hb hk
    obtain ⟨k, rfl⟩ : ∃ q, k = q + 4 := ⟨k - 4, by omega⟩
    obtain ⟨h1, hc2⟩ : t < en ∧ cnt en ev m (t + ev) := hc
    rw [ptTwo_step n e w n2 e2 fr en ev he he2 hto xs b t k h0 h1 (by omega) hb]
    have h2 := stepW_len (fun t => greyV n e t w && greyV n2 e2 t w) en xs b t
    exact ih _ _ _ (k + 2) (by omega) hc2 (by omega) (stepW_ne (fun t => greyV n e t w && greyV n2 e2 t w) en xs b t hb) (by omega)
theorem rfOne_eq (t n e w : Int) (k : Nat) : pilelaw1_GreyFollowed_1.f (k + 2) t n e w = some (greyV n e t w) := by
  unfold pilelaw1_GreyFollowed_1.f
  rw [GreyAt_eq]
  rfl
theorem rfOne_step (n e w fr en ev : Int) (he : 1 ≤ ev) (he2 : ev ≤ 86400000) (hto : en ≤ 345686400000) (xs : List S48) (b : Bool) (t : Int) (k : Nat) (h0 : 0 ≤ t) (h1 : t < en) (hx : xs.length ≤ 400000000000) (hb : b = true → xs ≠ []) :
    pileref1_AskedWindows_of_pilelaw1_GreyFollowed_1.l0 (k + 4) ev xs b t n e w fr en = pileref1_AskedWindows_of_pilelaw1_GreyFollowed_1.l0 (k + 2) ev (stepW (fun t => greyV n e t w) en xs b t) ((fun t => greyV n e t w) t) (t + ev) n e w fr en := by
  have q1 := rfOne_eq t n e w (k + 1)
  have q2 := rfOne_eq t n e w k
  have q3 : wrap64 (t + ev) = t + ev := wrap_id (by omega) (by omega)
  have hl : xs.length < 8796093022208 := by omega
  conv => lhs; simp only [pileref1_AskedWindows_of_pilelaw1_GreyFollowed_1.l0]
  rw [if_pos h1, q1]
  simp only [Option.bind_some]
  unfold stepW
  dsimp only
  generalize greyV n e t w = c at *
  cases c <;> cases b
  · simp only [pileref1_AskedWindows_of_pilelaw1_GreyFollowed_1.j1, q2, q3, Bool.not_false, Bool.not_true, Bool.false_eq_true, if_false, if_true, Option.bind_some]
  · have hne := hb rfl
    have hpos : 0 < xs.length := List.length_pos_iff.2 hne
    have q4 : wrap64 ((xs.length : Int) - 1) = (xs.length : Int) - 1 := wrap_id (by omega) (by omega)
    simp only [pileref1_AskedWindows_of_pilelaw1_GreyFollowed_1.j1, q2, q3, Bool.not_false, Bool.not_true, Bool.false_eq_true, if_false, if_true, Option.bind_some]
    rw [if_pos (by rw [q4]; omega), if_pos (by rw [q4]; omega)]
  · simp only [pileref1_AskedWindows_of_pilelaw1_GreyFollowed_1.j1, q2, q3, Bool.not_false, Bool.not_true, Bool.false_eq_true, if_false, if_true, Option.bind_some, if_pos hl]
  · simp only [pileref1_AskedWindows_of_pilelaw1_GreyFollowed_1.j1, q2, q3, Bool.not_false, Bool.not_true, Bool.false_eq_true, if_false, if_true, Option.bind_some]
theorem rfOne_run (n e w fr en ev : Int) (he : 1 ≤ ev) (he2 : ev ≤ 86400000) (hto : en ≤ 345686400000) : ∀ (m : Nat) (xs : List S48) (b : Bool) (t : Int) (k : Nat), 0 ≤ t → cnt en ev m t → xs.length + m ≤ 400000000000 → (b = true → xs ≠ []) → 2 * m + 2 ≤ k →
    pileref1_AskedWindows_of_pilelaw1_GreyFollowed_1.l0 k ev xs b t n e w fr en = some (runW (fun t => greyV n e t w) en ev m xs b t) := by
  intro m
  induction m with
  | zero =>
    intro xs b t k h0 hc hx hb hk
    obtain ⟨k, rfl⟩ : ∃ q, k = q + 1 := ⟨k - 1, by omega⟩
    have hc2 : en ≤ t := hc
    simp only [pileref1_AskedWindows_of_pilelaw1_GreyFollowed_1.l0]
    rw [if_neg (by omega)]
    rfl
  | succ m ih =>
    intro xs b t k h0 hc hx hb hk
    obtain ⟨k, rfl⟩ : ∃ q, k = q + 4 := ⟨k - 4, by omega⟩
    obtain ⟨h1, hc2⟩ : t < en ∧ cnt en ev m (t + ev) := hc
    rw [rfOne_step n e w fr en ev he he2 hto xs b t k h0 h1 (by omega) hb]
    have h2 := stepW_len (fun t => greyV n e t w) en xs b t
    exact ih _ _ _ (k + 2) (by omega) hc2 (by omega) (stepW_ne (fun t => greyV n e t w) en xs b t hb) (by omega)
theorem rfTwo_eq (t n e w n2 e2 : Int) (k : Nat) : pilelaw1_GreyFollowed_2.f (k + 2) t n e w n2 e2 = some ((greyV n e t w && greyV n2 e2 t w)) := by
  unfold pilelaw1_GreyFollowed_2.f
  rw [GreyAt_eq n e t w, GreyAt_eq n2 e2 t w]
  cases greyV n e t w <;> rfl
theorem rfTwo_step (n e w n2 e2 fr en ev : Int) (he : 1 ≤ ev) (he2 : ev ≤ 86400000) (hto : en ≤ 345686400000) (xs : List S48) (b : Bool) (t : Int) (k : Nat) (h0 : 0 ≤ t) (h1 : t < en) (hx : xs.length ≤ 400000000000) (hb : b = true → xs ≠ []) :
    pileref1_AskedWindows_of_pilelaw1_GreyFollowed_2.l0 (k + 4) ev xs b t n e w n2 e2 fr en = pileref1_AskedWindows_of_pilelaw1_GreyFollowed_2.l0 (k + 2) ev (stepW (fun t => greyV n e t w && greyV n2 e2 t w) en xs b t) ((fun t => greyV n e t w && greyV n2 e2 t w) t) (t + ev) n e w n2 e2 fr en := by
  have q1 := rfTwo_eq t n e w n2 e2 (k + 1)
  have q2 := rfTwo_eq t n e w n2 e2 k
  have q3 : wrap64 (t + ev) = t + ev := wrap_id (by omega) (by omega)
  have hl : xs.length < 8796093022208 := by omega
  conv => lhs; simp only [pileref1_AskedWindows_of_pilelaw1_GreyFollowed_2.l0]
  rw [if_pos h1, q1]
  simp only [Option.bind_some]
  unfold stepW
  dsimp only
  generalize (greyV n e t w && greyV n2 e2 t w) = c at *
  cases c <;> cases b
  · simp only [pileref1_AskedWindows_of_pilelaw1_GreyFollowed_2.j1, q2, q3, Bool.not_false, Bool.not_true, Bool.false_eq_true, if_false, if_true, Option.bind_some]
  · have hne := hb rfl
    have hpos : 0 < xs.length := List.length_pos_iff.2 hne
    have q4 : wrap64 ((xs.length : Int) - 1) = (xs.length : Int) - 1 := wrap_id (by omega) (by omega)
    simp only [pileref1_AskedWindows_of_pilelaw1_GreyFollowed_2.j1, q2, q3, Bool.not_false, Bool.not_true, Bool.false_eq_true, if_false, if_true, Option.bind_some]
    rw [if_pos (by rw [q4]; omega), if_pos (by rw [q4]; omega)]
  · simp only [pileref1_AskedWindows_of_pilelaw1_GreyFollowed_2.j1, q2, q3, Bool.not_false, Bool.not_true, Bool.false_eq_true, if_false, if_true, Option.bind_some, if_pos hl]
  · simp only [pileref1_AskedWindows_of_pilelaw1_GreyFollowed_2.j1, q2, q3, Bool.not_false, Bool.not_true, Bool.false_eq_true, if_false, if_true, Option.bind_some]
theorem rfTwo_run (n e w n2 e2 fr en ev : Int) (he : 1 ≤ ev) (he2 : ev ≤ 86400000) (hto : en ≤ 345686400000) : ∀ (m : Nat) (xs : List S48) (b : Bool) (t : Int) (k : Nat), 0 ≤ t → cnt en ev m t → xs.length + m ≤ 400000000000 → (b = true → xs ≠ []) → 2 * m + 2 ≤ k →
    pileref1_AskedWindows_of_pilelaw1_GreyFollowed_2.l0 k ev xs b t n e w n2 e2 fr en = some (runW (fun t => greyV n e t w && greyV n2 e2 t w) en ev m xs b t) := by
  intro m
  induction m with
  | zero =>
    intro xs b t k h0 hc hx hb hk
    obtain ⟨k, rfl⟩ : ∃ q, k = q + 1 := ⟨k - 1, by omega⟩
    have hc2 : en ≤ t := hc
    simp only [pileref1_AskedWindows_of_pilelaw1_GreyFollowed_2.l0]
    rw [if_neg (by omega)]
    rfl
  | succ m ih =>
    intro xs b t k h0 hc hx hb hk
    obtain ⟨k, rfl⟩ : ∃ q, k = q + 4 := ⟨k - 4, by omega⟩
    obtain ⟨h1, hc2⟩ : t < en ∧ cnt en ev m (t + ev) := hc
    rw [rfTwo_step n e w n2 e2 fr en ev he he2 hto xs b t k h0 h1 (by omega) hb]
    have h2 := stepW_len (fun t => greyV n e t w && greyV n2 e2 t w) en xs b t
    exact ih _ _ _ (k + 2) (by omega) hc2 (by omega) (stepW_ne (fun t => greyV n e t w && greyV n2 e2 t w) en xs b t hb) (by omega)
end Go.Proofs.Ytonnpocamipbiaa.PGreyFollowed
