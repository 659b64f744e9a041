/- Plain laws of locators: which strings are locators, their areas and middles; the program's and the document's come to the same. -/
import Derived.Test.YtonnpocamipbiaaLPlacesApartwindway
namespace Go.Proofs.Ytonnpocamipbiaa.PPlacesApart
open Go.RowKit Go.Proofs.YtonnpocamipbiaaW.PrintWords Go.Proofs.YtonnpocamipbiaaW.PrintLast
set_option linter.unusedSimpArgs false
def lvF (i : Nat) : Int := if i < 2 then 97 else if i < 4 then 48 else 97
def lvM (i : Nat) : Int := if i < 2 then 18 else if i < 4 then 10 else 24
def lvW (i : Nat) : Int := if i < 2 then 72000 else if i < 4 then 7200 else 300
def lvH (i : Nat) : Int := if i < 2 then 36000 else if i < 4 then 3600 else 150
def lvL : List S92 := [⟨18, 97, 72000, 36000⟩, ⟨10, 48, 7200, 3600⟩, ⟨24, 97, 300, 150⟩]
theorem levels_eq : place_levels.f = some lvL := rfl
theorem six (i : Nat) (h : i < 6) : i = 0 ∨ i = 1 ∨ i = 2 ∨ i = 3 ∨ i = 4 ∨ i = 5 := by omega
theorem lv_rd (i : Nat) (h : i < 6) : wrap64 (Int.tdiv (i : Int) 2) = ((i / 2 : Nat) : Int) ∧ rd_T92 lvL ((i / 2 : Nat) : Int) = ⟨lvM i, lvF i, lvW i, lvH i⟩ := by
  rcases six i h with rfl | rfl | rfl | rfl | rfl | rfl <;> exact ⟨by rw [tdiv_pos (by omega), wrap_id (by omega) (by omega)]; rfl, rfl⟩
theorem locOk_lv (s : ByteArray) (i : Nat) (h : i < 6) : locOk s i = decide (lvF i ≤ bt s (i : Int) ∧ bt s (i : Int) - lvF i < lvM i) := by
  have hb := bt_range s (i : Int)
  unfold locOk lvF lvM
  rcases six i h with rfl | rfl | rfl | rfl | rfl | rfl <;> (repeat first | rw [if_pos (by decide)] | rw [if_neg (by decide)]) <;> (rw [decide_eq_decide]; omega)
/-- Is a string a locator? -/
def locR (s : ByteArray) : Bool := decide (s.size = 2 ∨ s.size = 4 ∨ s.size = 6) && (List.range s.size).all (locOk s)
theorem LocatorRight_eq (s : ByteArray) : pileref1_LocatorRight.f s = some (locR s) := rfl
theorem IsLocator_loop (s : ByteArray) (hs : s.size ≤ 6) (d : Nat) : ∀ i : Nat, i + d = s.size → (∀ j < i, locOk s j = true) → Ev (fun k => place_IsLocator.l0 k s (s.size : Int) (i : Int)) ((List.range s.size).all (locOk s)) := by
  induction d with
  | zero =>
    intro i hi hj
    have e : (List.range s.size).all (locOk s) = true := List.all_eq_true.2 fun j h => hj j (by have := List.mem_range.1 h; omega)
    rw [e]
    refine Ev.step (f := fun _ => some _) (fun k => ?_) (Ev.now _)
    simp only [place_IsLocator.l0]
    rw [if_neg (by omega)]
  | succ d ih =>
    intro i hi hj
    have h6 : i < 6 := by omega
    obtain ⟨q1, q2⟩ := lv_rd i h6
    have hok := locOk_lv s i h6
    have hb := bt_range s (i : Int)
    have hlen : (lvL.length : Int) = 3 := rfl
    have hF : 48 ≤ lvF i ∧ lvF i ≤ 97 := by unfold lvF; split <;> (try split) <;> omega
    have hM : 0 ≤ lvM i := by unfold lvM; split <;> (try split) <;> omega
    have bad : locOk s i = false → (List.range s.size).all (locOk s) = false := fun hb' => by
      rw [List.all_eq_false]
      exact ⟨i, List.mem_range.2 (by omega), by simp [hb']⟩
    by_cases c : lvF i ≤ bt s (i : Int) ∧ bt s (i : Int) - lvF i < lvM i
    · have hi1 := ih (i + 1) (by omega) (fun j h => by
        rcases (by omega : j < i ∨ j = i) with h' | h'
        · exact hj j h'
        · rw [h', hok]; exact decide_eq_true c)
      refine Ev.step (fun k => ?_) hi1
      simp only [place_IsLocator.l0, levels_eq, Option.bind_some, q1, q2, hlen]
      rw [if_pos (by omega), if_pos (by omega), if_pos (by omega), if_pos (by omega), if_pos (by omega), if_neg (by omega), if_neg (by omega), wrap_id (by omega) (by omega)]
      rfl
    · rw [bad (by rw [hok]; exact decide_eq_false c)]
      refine Ev.step (f := fun _ => some _) (fun k => ?_) (Ev.now _)
      simp only [place_IsLocator.l0, levels_eq, Option.bind_some, q1, q2, hlen]
      rw [if_pos (by omega), if_pos (by omega), if_pos (by omega), if_pos (by omega), if_pos (by omega)]
      by_cases c1 : bt s (i : Int) < lvF i
      · rw [if_pos c1]
      · rw [if_neg c1, if_pos (by omega)]
theorem IsLocator_ev (s : ByteArray) : Ev (fun k => place_IsLocator.f k s) (locR s) := by
  unfold place_IsLocator.f locR
  by_cases c : s.size = 2 ∨ s.size = 4 ∨ s.size = 6
  · rw [decide_eq_true c, Bool.true_and]
    have h := IsLocator_loop s (by omega) s.size 0 (by omega) (fun j h => absurd h (by omega))
    have hj : Ev (fun k => place_IsLocator.j0 k s false) ((List.range s.size).all (locOk s)) := by
      refine Ev.step (fun k => ?_) h
      simp only [place_IsLocator.j0, Bool.false_eq_true, if_false]
      rfl
    rcases c with c | c | c
    · simp only [show (s.size : Int) = 2 by omega, if_true]
      exact hj
    · simp only [show ¬ ((s.size : Int) = 2) by omega, if_false, show (s.size : Int) = 4 by omega, if_true]
      exact hj
    · simp only [show ¬ ((s.size : Int) = 2) by omega, if_false, show ¬ ((s.size : Int) = 4) by omega, show ((s.size : Int) != 6) = false by rw [bne_eq_false_iff_eq]; omega]
      exact hj
  · rw [decide_eq_false c, Bool.false_and]
    simp only [show ¬ ((s.size : Int) = 2) by omega, if_false, show ¬ ((s.size : Int) = 4) by omega, show ((s.size : Int) != 6) = true by rw [bne_iff_ne]; omega]
    refine Ev.step (f := fun _ => some _) (fun k => ?_) (Ev.now _)
    simp only [place_IsLocator.j0, if_true]
/-- The number that a byte of a locator stands for. -/
def lvV (s : ByteArray) (i : Nat) : Int := bt s (i : Int) - lvF i
theorem lv_ok {s : ByteArray} (h : locR s = true) : (s.size = 2 ∨ s.size = 4 ∨ s.size = 6) ∧ ∀ i < s.size, 0 ≤ lvV s i ∧ lvV s i < lvM i := by
  unfold locR at h
  rw [Bool.and_eq_true] at h
  have hs := of_decide_eq_true h.1
  refine ⟨hs, fun i hi => ?_⟩
  have h1 := List.all_eq_true.1 h.2 i (List.mem_range.2 hi)
  rw [locOk_lv s i (by omega)] at h1
  have h2 := of_decide_eq_true h1
  unfold lvV
  omega
theorem area_step (s : ByteArray) (i : Nat) (h6 : i + 1 < 6) (he : i % 2 = 0) (hi : i + 1 < s.size) (v0 : 0 ≤ lvV s i ∧ lvV s i < 200) (v1 : 0 ≤ lvV s (i + 1) ∧ lvV s (i + 1) < 200) (n e : Int) (hn : -100000000 ≤ n ∧ n ≤ 100000000) (hE : -100000000 ≤ e ∧ e ≤ 100000000) (a b c d : Int) {r : Int × Int × Int × Int}
    (h : Ev (fun k => place_area.l0 k s ((i + 2 : Nat) : Int) (n + lvV s (i + 1) * lvH i) (e + lvV s i * lvW i) (lvM i) (lvF i) (lvW i) (lvH i)) r) : Ev (fun k => place_area.l0 k s (i : Int) n e a b c d) r := by
  obtain ⟨q1, q2⟩ := lv_rd i (by omega)
  have hlen : (lvL.length : Int) = 3 := rfl
  have hF : lvF (i + 1) = lvF i := by unfold lvF; rcases six i (by omega) with rfl | rfl | rfl | rfl | rfl | rfl <;> first | rfl | omega
  have hW : 0 ≤ lvW i ∧ lvW i ≤ 72000 := by unfold lvW; split <;> (try split) <;> omega
  have hH : 0 ≤ lvH i ∧ lvH i ≤ 36000 := by unfold lvH; split <;> (try split) <;> omega
  have w1 : wrap64 ((i : Int) + 1) = ((i + 1 : Nat) : Int) := by rw [wrap_id (by omega) (by omega)]; rfl
  have w2 : wrap64 ((i : Int) + 2) = ((i + 2 : Nat) : Int) := by rw [wrap_id (by omega) (by omega)]; rfl
  have e0 : (bt s (i : Int) - lvF i) % 256 = lvV s i := by have := v0; unfold lvV at *; omega
  have e1 : (bt s ((i + 1 : Nat) : Int) - lvF i) % 256 = lvV s (i + 1) := by have := v1; unfold lvV at *; rw [hF] at *; omega
  have m0 := mul_bd (lvV s i) (lvW i) 200 72000 (by omega) (by omega) (by omega) (by omega)
  have m1 := mul_bd (lvV s (i + 1)) (lvH i) 200 36000 (by omega) (by omega) (by omega) (by omega)
  refine Ev.step (fun k => ?_) h
  simp only [place_area.l0, levels_eq, Option.bind_some, q1, q2, hlen, w1, w2, e0, e1]
  rw [if_pos (by omega), if_pos (by omega), if_pos (by omega), if_pos (by omega), if_pos (by omega), if_pos (by omega)]
  rw [wrap_id (e := lvV s i * lvW i) (by omega) (by omega), wrap_id (e := lvV s (i + 1) * lvH i) (by omega) (by omega), wrap_id (e := n + lvV s (i + 1) * lvH i) (by omega) (by omega), wrap_id (e := e + lvV s i * lvW i) (by omega) (by omega)]
theorem areaFor_step (s : ByteArray) (i : Nat) (h6 : i + 1 < 6) (he : i % 2 = 0) (hi : i + 1 < s.size) (v0 : 0 ≤ lvV s i ∧ lvV s i < 200) (v1 : 0 ≤ lvV s (i + 1) ∧ lvV s (i + 1) < 200) (n e : Int) (hn : -100000000 ≤ n ∧ n ≤ 100000000) (hE : -100000000 ≤ e ∧ e ≤ 100000000) {r : Int × Int × Int × Int}
    (h : Ev (fun k => pileref1_AreaFor.l0 k s ((i + 2 : Nat) : Int) (n + lvV s (i + 1) * lvH i) (e + lvV s i * lvW i)) r) : Ev (fun k => pileref1_AreaFor.l0 k s (i : Int) n e) r := by
  have hF : lvF (i + 1) = lvF i := by unfold lvF; rcases six i (by omega) with rfl | rfl | rfl | rfl | rfl | rfl <;> first | rfl | omega
  have hW : 0 ≤ lvW i ∧ lvW i ≤ 72000 ∧ lvW i = 2 * lvH i := by unfold lvW lvH; split <;> (try split) <;> omega
  have w1 : wrap64 ((i : Int) + 1) = ((i + 1 : Nat) : Int) := by rw [wrap_id (by omega) (by omega)]; rfl
  have w2 : wrap64 ((i : Int) + 2) = ((i + 2 : Nat) : Int) := by rw [wrap_id (by omega) (by omega)]; rfl
  have e0 : (bt s (i : Int) - lvF i) % 256 = lvV s i := by have := v0; unfold lvV at *; omega
  have e1 : (bt s ((i + 1 : Nat) : Int) - lvF i) % 256 = lvV s (i + 1) := by have := v1; unfold lvV at *; rw [hF] at *; omega
  have m0 := mul_bd (lvV s i) (lvW i) 200 72000 (by omega) (by omega) (by omega) (by omega)
  have m1 := mul_bd (lvV s (i + 1)) (lvH i) 200 36000 (by omega) (by omega) (by omega) (by omega)
  have m2 : lvV s (i + 1) * lvW i = 2 * (lvV s (i + 1) * lvH i) := by rw [hW.2.2]; rw [← Int.mul_assoc, ← Int.mul_assoc, Int.mul_comm _ 2]
  have m3 : 0 ≤ lvV s (i + 1) * lvH i := Int.mul_nonneg v1.1 (by omega)
  have hsz : pileref1_sizeOf.f ((i + 2 : Nat) : Int) = some (lvW i) := by
    unfold pileref1_sizeOf.f lvW
    rcases six i (by omega) with rfl | rfl | rfl | rfl | rfl | rfl <;> first | rfl | omega
  have hdiv : wrap64 (Int.tdiv (wrap64 (lvV s (i + 1) * lvW i)) 2) = lvV s (i + 1) * lvH i := by
    rw [m2, wrap_id (e := 2 * (lvV s (i + 1) * lvH i)) (by omega) (by omega), tdiv_pos (by omega), wrap_id (by omega) (by omega)]
    omega
  refine Ev.step (fun k => ?_) h
  simp only [pileref1_AreaFor.l0, Option.bind_some, w1, w2, hsz]
  rw [if_pos (by omega)]
  by_cases c : (i : Int) = 2
  · have hf : lvF i = 48 := by have : i = 2 := by omega
                               subst this; rfl
    rw [hf] at e0 e1
    simp only [if_pos c, e0, e1, hdiv]
    rw [if_pos (by omega), if_pos (by omega), if_pos (by omega)]
    rw [wrap_id (e := lvV s i * lvW i) (by omega) (by omega), wrap_id (e := n + lvV s (i + 1) * lvH i) (by omega) (by omega), wrap_id (e := e + lvV s i * lvW i) (by omega) (by omega)]
  · have hf : lvF i = 97 := by unfold lvF; split <;> (try split) <;> omega
    rw [hf] at e0 e1
    simp only [if_neg c, e0, e1, hdiv]
    rw [if_pos (by omega), if_pos (by omega), if_pos (by omega)]
    rw [wrap_id (e := lvV s i * lvW i) (by omega) (by omega), wrap_id (e := n + lvV s (i + 1) * lvH i) (by omega) (by omega), wrap_id (e := e + lvV s i * lvW i) (by omega) (by omega)]
theorem area_end (s : ByteArray) (i : Nat) (hi : s.size = i + 2) (h6 : i + 1 < 6) (he : i % 2 = 0) (n e : Int) (hn : -100000000 ≤ n ∧ n ≤ 100000000) (hE : -100000000 ≤ e ∧ e ≤ 100000000) :
    Ev (fun k => place_area.l0 k s ((i + 2 : Nat) : Int) n e (lvM i) (lvF i) (lvW i) (lvH i)) (n, e, n + lvH i, e + lvW i) ∧ Ev (fun k => pileref1_AreaFor.l0 k s ((i + 2 : Nat) : Int) n e) (n, e, n + lvH i, e + lvW i) := by
  have hW : 0 ≤ lvW i ∧ lvW i ≤ 72000 ∧ lvW i = 2 * lvH i := by unfold lvW lvH; split <;> (try split) <;> omega
  have hsz : pileref1_sizeOf.f (s.size : Int) = some (lvW i) := by
    unfold pileref1_sizeOf.f lvW
    rw [hi]
    rcases six i (by omega) with rfl | rfl | rfl | rfl | rfl | rfl <;> first | rfl | omega
  constructor
  · refine Ev.step (f := fun _ => some _) (fun k => ?_) (Ev.now _)
    simp only [place_area.l0]
    rw [if_neg (by omega), wrap_id (by omega) (by omega), wrap_id (by omega) (by omega)]
  · refine Ev.step (f := fun _ => some _) (fun k => ?_) (Ev.now _)
    simp only [pileref1_AreaFor.l0, hsz, Option.bind_some]
    rw [if_neg (by omega), tdiv_pos (by omega), show lvW i / 2 = lvH i by omega, wrap_id (e := lvH i) (by omega) (by omega), wrap_id (by omega) (by omega), wrap_id (by omega) (by omega)]
theorem area_both (s : ByteArray) (h : locR s = true) : ∃ n e w : Int, (2 ≤ w ∧ w ≤ 36000) ∧ w % 2 = 0 ∧ (-324000 ≤ n ∧ n + w ≤ 324000) ∧ (-648000 ≤ e ∧ e + 2 * w ≤ 648000) ∧ Ev (fun k => place_area.f k s) (n, e, n + w, e + 2 * w) ∧ Ev (fun k => pileref1_AreaFor.f k s) (n, e, n + w, e + 2 * w) := by
  obtain ⟨hs, hv⟩ := lv_ok h
  have k0 := hv 0 (by omega)
  have k1 := hv 1 (by omega)
  have j0 : lvM 0 = 18 := rfl
  have j1 : lvM 1 = 18 := rfl
  have j2 : lvM 2 = 10 := rfl
  have j3 : lvM 3 = 10 := rfl
  have j4 : lvM 4 = 24 := rfl
  have j5 : lvM 5 = 24 := rfl
  have H0 : lvH 0 = 36000 := rfl
  have H2 : lvH 2 = 3600 := rfl
  have H4 : lvH 4 = 150 := rfl
  have W0 : lvW 0 = 72000 := rfl
  have W2 : lvW 2 = 7200 := rfl
  have W4 : lvW 4 = 300 := rfl
  unfold place_area.f pileref1_AreaFor.f
  have u0 : 0 ≤ lvV s 0 ∧ lvV s 0 < 200 := by omega
  have u1 : 0 ≤ lvV s (0 + 1) ∧ lvV s (0 + 1) < 200 := show 0 ≤ lvV s 1 ∧ lvV s 1 < 200 by omega
  have g0 : lvV s 0 * lvW 0 = lvV s 0 * 72000 := by rw [W0]
  have g1 : lvV s 1 * lvH 0 = lvV s 1 * 36000 := by rw [H0]
  have g2 : lvV s 2 * lvW 2 = lvV s 2 * 7200 := by rw [W2]
  have g3 : lvV s 3 * lvH 2 = lvV s 3 * 3600 := by rw [H2]
  have g4 : lvV s 4 * lvW 4 = lvV s 4 * 300 := by rw [W4]
  have g5 : lvV s 5 * lvH 4 = lvV s 5 * 150 := by rw [H4]
  have g1' : lvV s (0 + 1) * lvH 0 = lvV s 1 * 36000 := g1
  have g3' : lvV s (2 + 1) * lvH 2 = lvV s 3 * 3600 := g3
  have g5' : lvV s (4 + 1) * lvH 4 = lvV s 5 * 150 := g5
  rcases hs with hs | hs | hs
  · obtain ⟨f1, f2⟩ := area_end s 0 hs (by omega) rfl (-324000 + lvV s 1 * lvH 0) (-648000 + lvV s 0 * lvW 0) (by omega) (by omega)
    refine ⟨-324000 + lvV s 1 * lvH 0, -648000 + lvV s 0 * lvW 0, 36000, by omega, by omega, by omega, by omega, ?_, ?_⟩
    · exact area_step s 0 (by omega) rfl (by omega) u0 u1 _ _ (by omega) (by omega) _ _ _ _ f1
    · exact areaFor_step s 0 (by omega) rfl (by omega) u0 u1 _ _ (by omega) (by omega) f2
  · have k2 := hv 2 (by omega)
    have k3 := hv 3 (by omega)
    have u2 : 0 ≤ lvV s 2 ∧ lvV s 2 < 200 := by omega
    have u3 : 0 ≤ lvV s (2 + 1) ∧ lvV s (2 + 1) < 200 := show 0 ≤ lvV s 3 ∧ lvV s 3 < 200 by omega
    obtain ⟨f1, f2⟩ := area_end s 2 hs (by omega) rfl (-324000 + lvV s 1 * lvH 0 + lvV s 3 * lvH 2) (-648000 + lvV s 0 * lvW 0 + lvV s 2 * lvW 2) (by omega) (by omega)
    refine ⟨-324000 + lvV s 1 * lvH 0 + lvV s 3 * lvH 2, -648000 + lvV s 0 * lvW 0 + lvV s 2 * lvW 2, 3600, by omega, by omega, by omega, by omega, ?_, ?_⟩
    · exact area_step s 0 (by omega) rfl (by omega) u0 u1 _ _ (by omega) (by omega) _ _ _ _ (area_step s 2 (by omega) rfl (by omega) u2 u3 _ _ (by omega) (by omega) _ _ _ _ f1)
    · exact areaFor_step s 0 (by omega) rfl (by omega) u0 u1 _ _ (by omega) (by omega) (areaFor_step s 2 (by omega) rfl (by omega) u2 u3 _ _ (by omega) (by omega) f2)
  · have k2 := hv 2 (by omega)
    have k3 := hv 3 (by omega)
    have u2 : 0 ≤ lvV s 2 ∧ lvV s 2 < 200 := by omega
    have u3 : 0 ≤ lvV s (2 + 1) ∧ lvV s (2 + 1) < 200 := show 0 ≤ lvV s 3 ∧ lvV s 3 < 200 by omega
    have k4 := hv 4 (by omega)
    have k5 := hv 5 (by omega)
    have u4 : 0 ≤ lvV s 4 ∧ lvV s 4 < 200 := by omega
    have u5 : 0 ≤ lvV s (4 + 1) ∧ lvV s (4 + 1) < 200 := show 0 ≤ lvV s 5 ∧ lvV s 5 < 200 by omega
    obtain ⟨f1, f2⟩ := area_end s 4 hs (by omega) rfl (-324000 + lvV s 1 * lvH 0 + lvV s 3 * lvH 2 + lvV s 5 * lvH 4) (-648000 + lvV s 0 * lvW 0 + lvV s 2 * lvW 2 + lvV s 4 * lvW 4) (by omega) (by omega)
    refine ⟨-324000 + lvV s 1 * lvH 0 + lvV s 3 * lvH 2 + lvV s 5 * lvH 4, -648000 + lvV s 0 * lvW 0 + lvV s 2 * lvW 2 + lvV s 4 * lvW 4, 150, by omega, by omega, by omega, by omega, ?_, ?_⟩
    · exact area_step s 0 (by omega) rfl (by omega) u0 u1 _ _ (by omega) (by omega) _ _ _ _ (area_step s 2 (by omega) rfl (by omega) u2 u3 _ _ (by omega) (by omega) _ _ _ _ (area_step s 4 (by omega) rfl (by omega) u4 u5 _ _ (by omega) (by omega) _ _ _ _ f1))
    · exact areaFor_step s 0 (by omega) rfl (by omega) u0 u1 _ _ (by omega) (by omega) (areaFor_step s 2 (by omega) rfl (by omega) u2 u3 _ _ (by omega) (by omega) (areaFor_step s 4 (by omega) rfl (by omega) u4 u5 _ _ (by omega) (by omega) f2))
theorem middle_both (s : ByteArray) (h : locR s = true) : ∃ n e : Int, Right n e ∧ Ev (fun k => place_middle.f k s) (n, e) ∧ Ev (fun k => pileref1_MiddleOf.f k s) (n, e) := by
  obtain ⟨n, e, w, hw, hm, hn, he, h1, h2⟩ := area_both s h
  refine ⟨n + w / 2, e + w, by unfold Right; omega, Ev.bind h1 ?_, Ev.bind h2 ?_⟩
  · simp only
    rw [wrap_id (e := n + w - n) (by omega) (by omega), tdiv_pos (a := n + w - n) (by omega), wrap_id (e := (n + w - n) / 2) (by omega) (by omega), wrap_id (e := n + (n + w - n) / 2) (by omega) (by omega), wrap_id (e := e + 2 * w - e) (by omega) (by omega), tdiv_pos (a := e + 2 * w - e) (by omega), wrap_id (e := (e + 2 * w - e) / 2) (by omega) (by omega), wrap_id (e := e + (e + 2 * w - e) / 2) (by omega) (by omega), show n + (n + w - n) / 2 = n + w / 2 by omega, show e + (e + 2 * w - e) / 2 = e + w by omega]
    exact Ev.now _
  · simp only
    have a1 : Int.tdiv (n + (n + w)) 2 = n + w / 2 := by
      by_cases s0 : 0 ≤ n + (n + w)
      · rw [tdiv_pos s0]; omega
      · rw [tdiv_neg (a := n + (n + w)) (by omega)]; omega
    have a2 : Int.tdiv (e + (e + 2 * w)) 2 = e + w := by
      by_cases s0 : 0 ≤ e + (e + 2 * w)
      · rw [tdiv_pos s0]; omega
      · rw [tdiv_neg (a := e + (e + 2 * w)) (by omega)]; omega
    rw [wrap_id (e := n + (n + w)) (by omega) (by omega), a1, wrap_id (e := n + w / 2) (by omega) (by omega), wrap_id (e := e + (e + 2 * w)) (by omega) (by omega), a2, wrap_id (e := e + w) (by omega) (by omega)]
    exact Ev.now _
end Go.Proofs.Ytonnpocamipbiaa.PPlacesApart
