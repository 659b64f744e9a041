/- Plain laws of the farthest of some locators: the program's and the document's come to the same. -/
import Derived.Test.YtonnpocamipbiaaLPlacesApartloc
namespace Go.Proofs.Ytonnpocamipbiaa.PPlacesApart
open Go.RowKit Go.Proofs.YtonnpocamipbiaaW.PrintWords Go.Proofs.YtonnpocamipbiaaW.PrintLast
set_option linter.unusedSimpArgs false
theorem rdB_get (l : List ByteArray) (i : Nat) (h : i < l.length) : rdOf ByteArray.empty l (i : Int) = l[i] := by
  simp [rdOf, List.getD, List.getElem?_eq_getElem h]
theorem LocatorFault_eq (s : ByteArray) : pileref1_LocatorFault.f s = some (if locR s = true then 0 else 3) := by
  unfold pileref1_LocatorFault.f
  rw [LocatorRight_eq, Option.bind_some]
  split <;> rfl
theorem LocatorsFault_loop (L : List ByteArray) (hL : L.length ≤ 2000) (d : Nat) : ∀ i : Nat, i + d = L.length → Ev (fun k => pileref1_LocatorsFault.l0 k L (L.length : Int) (i : Int)) (if (L.drop i).all locR = true then 0 else 3) := by
  induction d with
  | zero =>
    intro i hi
    rw [List.drop_of_length_le (by omega), List.all_nil, if_pos rfl]
    refine Ev.step (f := fun _ => some _) (fun k => ?_) (Ev.now _)
    simp only [pileref1_LocatorsFault.l0]
    rw [if_neg (by omega)]
  | succ d ih =>
    intro i hi
    have hlt : i < L.length := by omega
    have hd : L.drop i = L[i] :: L.drop (i + 1) := List.drop_eq_getElem_cons hlt
    rw [hd, List.all_cons]
    have hr := rdB_get L i hlt
    by_cases c : locR L[i] = true
    · rw [c, Bool.true_and]
      refine Ev.step (fun k => ?_) (ih (i + 1) (by omega))
      simp only [pileref1_LocatorsFault.l0, hr, LocatorFault_eq, Option.bind_some, if_pos c]
      rw [if_pos (by omega), if_pos (by omega), if_pos (by omega), if_pos trivial, wrap_id (by omega) (by omega)]
      rfl
    · rw [Bool.eq_false_iff.2 c, Bool.false_and, if_neg (by decide)]
      refine Ev.step (f := fun _ => some _) (fun k => ?_) (Ev.now _)
      simp only [pileref1_LocatorsFault.l0, hr, LocatorFault_eq, Option.bind_some, if_neg c]
      rw [if_pos (by omega), if_pos (by omega), if_pos (by omega), if_neg (by omega)]
theorem LocatorsFault_ev (L : List ByteArray) (hL : L.length ≤ 2000) : Ev (fun k => pileref1_LocatorsFault.f k L) (if L.all locR = true then 0 else 3) := by
  have h := LocatorsFault_loop L hL L.length 0 (by omega)
  have z : ¬ ((L.length : Int) > 2000) := by omega
  simp only [pileref1_LocatorsFault.f, if_neg z]
  exact h
theorem Farthest_loop (s : ByteArray) (hs : locR s = true) (L : List ByteArray) (hL : L.length ≤ 2000) (d : Nat) : ∀ (i : Nat) (b m : Int), i + d = L.length →
    ∃ r : Int × Int, Ev (fun k => place_Farthest.l0 k s b m L (L.length : Int) (i : Int)) (if (L.drop i).all locR = true then (r.1, r.2, 0) else (0, 0, 3)) ∧
      ((L.drop i).all locR = true → Ev (fun k => pileref1_FarthestOf.l0 k s b m L (L.length : Int) (i : Int)) r) := by
  obtain ⟨n0, e0, R0, m1, m2⟩ := middle_both s hs
  induction d with
  | zero =>
    intro i b m hi
    rw [List.drop_of_length_le (by omega), List.all_nil]
    simp only [if_true]
    refine ⟨(b, m), Ev.step (f := fun _ => some _) (fun k => ?_) (Ev.now _), fun _ => Ev.step (f := fun _ => some _) (fun k => ?_) (Ev.now _)⟩
    · simp only [place_Farthest.l0]
      rw [if_neg (by omega)]
    · simp only [pileref1_FarthestOf.l0]
      rw [if_neg (by omega)]
  | succ d ih =>
    intro i b m hi
    have hlt : i < L.length := by omega
    have hd : L.drop i = L[i] :: L.drop (i + 1) := List.drop_eq_getElem_cons hlt
    rw [hd, List.all_cons]
    have hr := rdB_get L i hlt
    have hw : wrap64 ((i : Int) + 1) = ((i + 1 : Nat) : Int) := by rw [wrap_id (by omega) (by omega)]; rfl
    have hl := IsLocator_ev L[i]
    by_cases c : locR L[i] = true
    · obtain ⟨n1, e1, R1, p1, p2⟩ := middle_both L[i] c
      obtain ⟨q, q1, q2⟩ := dist_both n0 e0 n1 e1 R0 R1
      rw [c] at hl
      rw [c, Bool.true_and]
      by_cases g : q > m
      · obtain ⟨r, r1, r2⟩ := ih (i + 1) i q (by omega)
        refine ⟨r, Ev.step (f := ?f) (fun k => ?h) ?k, fun ha => Ev.step (f := ?f2) (fun k => ?h2) ?k2⟩
        case h =>
          simp only [place_Farthest.l0, hr, hw]
          rw [if_pos (by omega), if_pos (by omega), if_pos (by omega)]
        case h2 =>
          simp only [pileref1_FarthestOf.l0, hr, hw]
          rw [if_pos (by omega), if_pos (by omega), if_pos (by omega)]
        case k =>
          refine Ev.bind hl ?_
          simp only [if_true]
          refine Ev.bind m1 (Ev.bind p1 (Ev.bind q1 ?_))
          simp only [if_pos g]
          exact r1
        case k2 =>
          refine Ev.bind m2 (Ev.bind p2 (Ev.bind q2 ?_))
          simp only [if_pos g]
          exact r2 ha
      · obtain ⟨r, r1, r2⟩ := ih (i + 1) b m (by omega)
        refine ⟨r, Ev.step (f := ?f) (fun k => ?h) ?k, fun ha => Ev.step (f := ?f2) (fun k => ?h2) ?k2⟩
        case h =>
          simp only [place_Farthest.l0, hr, hw]
          rw [if_pos (by omega), if_pos (by omega), if_pos (by omega)]
        case h2 =>
          simp only [pileref1_FarthestOf.l0, hr, hw]
          rw [if_pos (by omega), if_pos (by omega), if_pos (by omega)]
        case k =>
          refine Ev.bind hl ?_
          simp only [if_true]
          refine Ev.bind m1 (Ev.bind p1 (Ev.bind q1 ?_))
          simp only [if_neg g]
          exact r1
        case k2 =>
          refine Ev.bind m2 (Ev.bind p2 (Ev.bind q2 ?_))
          simp only [if_neg g]
          exact r2 ha
    · rw [Bool.eq_false_iff.2 c] at hl
      rw [Bool.eq_false_iff.2 c, Bool.false_and]
      simp only [Bool.false_eq_true, if_false]
      refine ⟨(0, 0), Ev.step (f := ?f) (fun k => ?h) ?k, fun h => h.elim⟩
      case h =>
        simp only [place_Farthest.l0, hr, hw]
        rw [if_pos (by omega), if_pos (by omega), if_pos (by omega)]
      case k =>
        refine Ev.bind hl ?_
        simp only [Bool.false_eq_true, if_false]
        exact Ev.now _
theorem Farthest_both (s : ByteArray) (L : List ByteArray) (hL : L.length ≤ 2000) :
    ∃ r : Int × Int, Ev (fun k => place_Farthest.f k s L) (if locR s = true then (if L.length = 0 then (0, 0, 8) else if L.all locR = true then (r.1, r.2, 0) else (0, 0, 3)) else (0, 0, 3)) ∧
      (locR s = true → L.length ≠ 0 → L.all locR = true → Ev (fun k => pileref1_FarthestOf.f k s L) r) := by
  by_cases hs : locR s = true
  · obtain ⟨r, r1, r2⟩ := Farthest_loop s hs L hL L.length 0 0 (-1) (by omega)
    refine ⟨r, Ev.bind (IsLocator_ev s) ?_, fun _ _ ha => r2 ha⟩
    rw [if_pos hs]
    simp only [hs, if_true]
    by_cases z : L.length = 0
    · have z' : (L.length : Int) = 0 := by omega
      simp only [if_pos z, if_pos z']
      exact Ev.now _
    · have z' : ¬ (L.length : Int) = 0 := by omega
      have z2 : ¬ (L.length : Int) > 2000 := by omega
      simp only [if_neg z, if_neg z', if_neg z2]
      exact r1
  · refine ⟨(0, 0), Ev.bind (IsLocator_ev s) ?_, fun h => absurd h hs⟩
    rw [if_neg hs]
    simp only [if_neg hs]
    exact Ev.now _
end Go.Proofs.Ytonnpocamipbiaa.PPlacesApart
