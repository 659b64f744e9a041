/- Plain laws of winds and ways: the program's and the document's come to the same. -/
import Derived.Test.YtonnpocamipbiaaLPlacesApartgeo
namespace Go.Proofs.Ytonnpocamipbiaa.PPlacesApart
open Go.RowKit Go.Proofs.YtonnpocamipbiaaW.PrintWords Go.Proofs.YtonnpocamipbiaaW.PrintLast
set_option linter.unusedSimpArgs false
theorem mx_eq (a b : Int) : mx a b = if a < b then b else a := rfl
theorem checkBoth_eq (an ae bn be : Int) : place_checkBoth.f an ae bn be = some (if ((-324000 ≤ an ∧ an ≤ 324000) ∧ -648000 ≤ ae ∧ ae ≤ 647999) ∧ ((-324000 ≤ bn ∧ bn ≤ 324000) ∧ -648000 ≤ be ∧ be ≤ 647999) then 0 else 1) := by
  unfold place_checkBoth.f
  rw [CheckSite_eq]
  simp only [Option.bind_some]
  by_cases h1 : (-324000 ≤ an ∧ an ≤ 324000) ∧ -648000 ≤ ae ∧ ae ≤ 647999
  · rw [if_pos h1, if_pos rfl, CheckSite_eq]
    by_cases h2 : (-324000 ≤ bn ∧ bn ≤ 324000) ∧ -648000 ≤ be ∧ be ≤ 647999
    · rw [if_pos h2, if_pos ⟨h1, h2⟩]; rfl
    · rw [if_neg h2, if_neg (fun h => h2 h.2)]; rfl
  · rw [if_neg h1, if_neg (by omega), if_neg (fun h => h1 h.1)]
/-- The wind of two numbers of metres (x and y: their amounts), with its fault. -/
def windW (n e x y : Int) : Int × Int :=
  if n = 0 ∧ e = 0 then (0, 8)
  else if 12 * y ≤ 5 * x ∧ n > 0 then (0, 0)
  else if 12 * y ≤ 5 * x then (4, 0)
  else if 12 * x ≤ 5 * y ∧ e > 0 then (2, 0)
  else if 12 * x ≤ 5 * y then (6, 0)
  else if n > 0 ∧ e > 0 then (1, 0)
  else if e > 0 then (3, 0)
  else if n > 0 then (7, 0) else (5, 0)
def windV (n e : Int) : Int × Int := windW n e (mx n (-n)) (mx e (-e))
def windO (n e : Int) : Int := if n = 0 ∧ e = 0 then -1 else (windV n e).1
theorem windV_ok (n e : Int) : (windV n e).1 = mx (windO n e) 0 ∧ (windV n e).2 = (if windO n e < 0 then 8 else 0) := by
  unfold windO windV windW
  by_cases h : n = 0 ∧ e = 0
  · simp only [if_pos h]
    decide
  · simp only [if_neg h]
    repeat' split
    all_goals first | decide | (exfalso; omega)
theorem amount (n : Int) (h : -20000000 ≤ n ∧ n ≤ 20000000) : 0 ≤ mx n (-n) ∧ mx n (-n) ≤ 20000000 ∧ (mx n (-n) = 0 ↔ n = 0) ∧ (n > 0 → mx n (-n) = n) ∧ (n < 0 → mx n (-n) = -n) := by
  rw [mx_eq]
  split <;> omega
theorem wind_core (n e x y : Int) (x0 : 0 ≤ x) (x1 : x ≤ 20000000) (x2 : x = 0 ↔ n = 0) (y0 : 0 ≤ y) (y1 : y ≤ 20000000) (y2 : y = 0 ↔ e = 0) (k : Nat) :
    (if x = 0 then place_Wind.j0 (k + 4) n e x y (y == 0) else place_Wind.j0 (k + 4) n e x y false) = some (windW n e x y) := by
  simp only [place_Wind.j0, place_Wind.j1, place_Wind.j2, place_Wind.j3]
  rw [wrap_id (e := 12 * y) (by omega) (by omega), wrap_id (e := 5 * x) (by omega) (by omega), wrap_id (e := 12 * x) (by omega) (by omega), wrap_id (e := 5 * y) (by omega) (by omega)]
  unfold windW
  have zz : ¬ ((0 : Int) > 0) := by decide
  by_cases z1 : n = 0 <;> by_cases z2 : e = 0 <;> by_cases q1 : 12 * y ≤ 5 * x <;> by_cases q2 : 12 * x ≤ 5 * y <;> by_cases q3 : n > 0 <;> by_cases q4 : e > 0
  all_goals first
    | (exfalso; omega)
    | (have bx : x = 0 := by omega
       have by_ : (y == 0) = decide (e = 0) := by rw [Bool.eq_iff_iff]; simp; omega
       rw [if_pos bx, by_]
       simp only [z1, z2, q1, q2, q3, q4, zz, decide_true, decide_false, Bool.false_eq_true, if_true, if_false, and_true, and_false, true_and, false_and, and_self])
    | (have bx : ¬ (x = 0) := by omega
       rw [if_neg bx]
       simp only [z1, z2, q1, q2, q3, q4, zz, decide_true, decide_false, Bool.false_eq_true, if_true, if_false, and_true, and_false, true_and, false_and, and_self])
theorem Wind_ev (an ae bn be : Int) (ha : Right an ae) (hb : Right bn be) : Ev (fun k => place_Wind.f k an ae bn be) (windV (metresV an ae bn be).1 (metresV an ae bn be).2) := by
  obtain ⟨b1, b2⟩ := metres_bd an ae bn be ha hb
  have hm := metres_ev an ae bn be ha hb
  unfold place_Wind.f
  rw [checkBoth_eq, if_pos ⟨ha, hb⟩]
  simp only [Option.bind_some, if_true]
  refine Ev.bind hm ?_
  obtain ⟨x0, x1, x2, _, _⟩ := amount _ b1
  obtain ⟨y0, y1, y2, _, _⟩ := amount _ b2
  refine ⟨4, fun k hk => ?_⟩
  obtain ⟨k, rfl⟩ : ∃ m, k = m + 4 := ⟨k - 4, by omega⟩
  simp only
  rw [wrap_id (e := -(metresV an ae bn be).1) (by omega) (by omega), wrap_id (e := -(metresV an ae bn be).2) (by omega) (by omega)]
  exact wind_core _ _ _ _ x0 x1 x2 y0 y1 y2 k
theorem Index_at (k : Nat) (u r v : Int) (h : (u = 1 ∧ r = 0 ∧ v = 0) ∨ (u = 1 ∧ r = 1 ∧ v = 1) ∨ (u = 0 ∧ r = 1 ∧ v = 2) ∨ (u = -1 ∧ r = 1 ∧ v = 3) ∨ (u = -1 ∧ r = 0 ∧ v = 4) ∨ (u = -1 ∧ r = -1 ∧ v = 5) ∨ (u = 0 ∧ r = -1 ∧ v = 6) ∨ (u = 1 ∧ r = -1 ∧ v = 7)) :
    slices_Index_2_int_2_int.f (k + 9) (([(⟨1, 0⟩ : S86), (⟨1, 1⟩ : S86), (⟨0, 1⟩ : S86), (⟨(-1), 1⟩ : S86), (⟨(-1), 0⟩ : S86), (⟨(-1), (-1)⟩ : S86), (⟨0, (-1)⟩ : S86), (⟨1, (-1)⟩ : S86)] : List (S86))) u r = some v := by
  rcases h with ⟨rfl, rfl, rfl⟩ | ⟨rfl, rfl, rfl⟩ | ⟨rfl, rfl, rfl⟩ | ⟨rfl, rfl, rfl⟩ | ⟨rfl, rfl, rfl⟩ | ⟨rfl, rfl, rfl⟩ | ⟨rfl, rfl, rfl⟩ | ⟨rfl, rfl, rfl⟩ <;> simp [slices_Index_2_int_2_int.f, slices_Index_2_int_2_int.l0, rd_T86, wrap64]
theorem windOf_core (n e x y : Int) (x0 : 0 ≤ x) (x1 : x ≤ 20000000) (x2 : x = 0 ↔ n = 0) (y0 : 0 ≤ y) (y1 : y ≤ 20000000) (y2 : y = 0 ↔ e = 0) (k : Nat) :
    (if n = 0 then pileref1_WindOf.j0 (k + 13) n e x y (e == 0) else pileref1_WindOf.j0 (k + 13) n e x y false) = some (if n = 0 ∧ e = 0 then -1 else (windW n e x y).1) := by
  by_cases z : n = 0 ∧ e = 0
  · rw [if_pos z, if_pos z.1]
    simp only [pileref1_WindOf.j0, z.2, beq_self_eq_true, if_true]
  · rw [if_neg z]
    have zb : (if n = 0 then pileref1_WindOf.j0 (k + 13) n e x y (e == 0) else pileref1_WindOf.j0 (k + 13) n e x y false) = pileref1_WindOf.j0 (k + 13) n e x y false := by
      by_cases zn : n = 0
      · rw [if_pos zn, show (e == 0) = false by rw [beq_eq_false_iff_ne]; omega]
      · rw [if_neg zn]
    rw [zb]
    simp only [pileref1_WindOf.j0, pileref1_WindOf.j1, pileref1_WindOf.j2, Bool.false_eq_true, if_false]
    rw [wrap_id (e := 12 * y) (by omega) (by omega), wrap_id (e := 5 * x) (by omega) (by omega), wrap_id (e := 12 * x) (by omega) (by omega), wrap_id (e := 5 * y) (by omega) (by omega)]
    have I := fun u r v h => Index_at (k + 1) u r v h
    unfold windW
    rw [if_neg z]
    by_cases p1 : n < 0 <;> by_cases p2 : e < 0 <;> by_cases q1 : 12 * y ≤ 5 * x <;> by_cases q2 : 12 * x ≤ 5 * y <;> by_cases q3 : n > 0 <;> by_cases q4 : e > 0
    all_goals first
      | (exfalso; omega)
      | (simp only [p1, p2, q1, q2, q3, q4, if_true, if_false, and_true, and_false, and_self]
         first
           | (rw [I 1 0 0 (by decide)]; rfl)
           | (rw [I 1 1 1 (by decide)]; rfl)
           | (rw [I 0 1 2 (by decide)]; rfl)
           | (rw [I (-1) 1 3 (by decide)]; rfl)
           | (rw [I (-1) 0 4 (by decide)]; rfl)
           | (rw [I (-1) (-1) 5 (by decide)]; rfl)
           | (rw [I 0 (-1) 6 (by decide)]; rfl)
           | (rw [I 1 (-1) 7 (by decide)]; rfl))
theorem WindOf_ev (an ae bn be : Int) (ha : Right an ae) (hb : Right bn be) : Ev (fun k => pileref1_WindOf.f k an ae bn be) (windO (metresV an ae bn be).1 (metresV an ae bn be).2) := by
  obtain ⟨b1, b2⟩ := metres_bd an ae bn be ha hb
  refine Ev.bind (apart_ev an ae bn be ha hb) ?_
  obtain ⟨x0, x1, x2, _, _⟩ := amount _ b1
  obtain ⟨y0, y1, y2, _, _⟩ := amount _ b2
  refine ⟨13, fun k hk => ?_⟩
  obtain ⟨k, rfl⟩ : ∃ m, k = m + 13 := ⟨k - 13, by omega⟩
  simp only
  rw [wrap_id (e := -(metresV an ae bn be).1) (by omega) (by omega), wrap_id (e := -(metresV an ae bn be).2) (by omega) (by omega)]
  exact windOf_core _ _ _ _ x0 x1 x2 y0 y1 y2 k
theorem way_both (an ae dn de p : Int) (ha : Right an ae) (hd : -648000 ≤ dn ∧ dn ≤ 648000) (he : -648000 ≤ de ∧ de ≤ 648000) (hp : 1 ≤ p ∧ p ≤ 1000) (d : Nat) : ∀ (i : Int) (acc : List S27), 0 ≤ i → i + d = p + 1 → acc.length ≤ i →
    ∃ L, Ev (fun k => place_Way.l0 k p dn de acc (p + 1) i an ae) (L, 0) ∧ Ev (fun k => pileref1_WayOf.l0 k p dn de acc (p + 1) i an ae) L ∧ L.length ≤ 2000 := by
  unfold Right at ha
  induction d with
  | zero =>
    intro i acc h0 hi hl
    refine ⟨acc, Ev.step (f := fun _ => some _) (fun k => ?_) (Ev.now _), Ev.step (f := fun _ => some _) (fun k => ?_) (Ev.now _), by omega⟩
    · simp only [place_Way.l0]
      rw [if_neg (by omega)]
    · simp only [pileref1_WayOf.l0]
      rw [if_neg (by omega)]
  | succ d ih =>
    intro i acc h0 hi hl
    have m1 := mul_bd de i 648000 1000 (by omega) (by omega) he (by omega)
    have m2 := mul_bd dn i 648000 1000 (by omega) (by omega) hd (by omega)
    have t1 := tdiv_bd (de * i) p (by omega) 648000000 (by omega) (by omega)
    have t2 := tdiv_bd (dn * i) p (by omega) 648000000 (by omega) (by omega)
    obtain ⟨L, l1, l2, l3⟩ := ih (i + 1) (acc ++ [⟨an + Int.tdiv (dn * i) p, aroundV (ae + Int.tdiv (de * i) p)⟩]) (by omega) (by omega) (by simp; omega)
    refine ⟨L, Ev.step (fun k => ?_) l1, Ev.step (fun k => ?_) l2, l3⟩
    · simp only [place_Way.l0]
      rw [if_pos (by omega), if_neg (by omega), wrap_id (e := de * i) (by omega) (by omega), wrap_id (e := Int.tdiv (de * i) p) (by omega) (by omega), wrap_id (e := ae + Int.tdiv (de * i) p) (by omega) (by omega), around_eq _ (by omega) (by omega), Option.bind_some, if_pos (by omega), wrap_id (e := dn * i) (by omega) (by omega), wrap_id (e := Int.tdiv (dn * i) p) (by omega) (by omega), wrap_id (e := an + Int.tdiv (dn * i) p) (by omega) (by omega), wrap_id (e := i + 1) (by omega) (by omega)]
    · simp only [pileref1_WayOf.l0]
      rw [if_pos (by omega), if_neg (by omega), wrap_id (e := de * i) (by omega) (by omega), wrap_id (e := Int.tdiv (de * i) p) (by omega) (by omega), wrap_id (e := ae + Int.tdiv (de * i) p) (by omega) (by omega), aroundOf_eq _ (by omega) (by omega), Option.bind_some, if_pos (by omega), wrap_id (e := dn * i) (by omega) (by omega), wrap_id (e := Int.tdiv (dn * i) p) (by omega) (by omega), wrap_id (e := an + Int.tdiv (dn * i) p) (by omega) (by omega), wrap_id (e := i + 1) (by omega) (by omega)]
theorem Way_both (an ae bn be p : Int) (ha : Right an ae) (hb : Right bn be) (hp : -1000000 ≤ p ∧ p ≤ 1000000) : ∃ L, Ev (fun k => place_Way.f k an ae bn be p) (L, if 1 ≤ p ∧ p ≤ 1000 then 0 else 1) ∧ (if 1 ≤ p ∧ p ≤ 1000 then Ev (fun k => pileref1_WayOf.f k an ae bn be p) L else L = []) ∧ L.length ≤ 2000 := by
  have hr := aroundV_bd (be - ae)
  unfold place_Way.f
  rw [checkBoth_eq, if_pos ⟨ha, hb⟩]
  simp only [Option.bind_some, if_true, Outside_eq, decide_eq_true_eq, between_eq an ae bn be ha hb]
  by_cases h : 1 ≤ p ∧ p ≤ 1000
  · have ha' := ha
    have hb' := hb
    unfold Right at ha' hb'
    obtain ⟨L, l1, l2, l3⟩ := way_both an ae (bn - an) (aroundV (be - ae)) p ha (by omega) (by omega) h (p + 1).toNat 0 [] (by omega) (by omega) (by simp)
    refine ⟨L, ?_, ?_, l3⟩
    · have z : ¬ (p < 1 ∨ 1000 < p) := by omega
      simp only [if_pos h, if_neg z]
      rw [wrap_id (e := p + 1) (by omega) (by omega)]
      exact l1
    · rw [if_pos h]
      refine Ev.bind (apart_ev an ae bn be ha hb) ?_
      rw [wrap_id (e := p + 1) (by omega) (by omega)]
      exact l2
  · refine ⟨[], ?_, ?_, by simp⟩
    · have z : p < 1 ∨ 1000 < p := by omega
      simp only [if_neg h, if_pos z]
      exact Ev.now _
    · rw [if_neg h]
theorem EqualSites_loop (l : List S27) (hl : l.length ≤ 100000) (d : Nat) : ∀ i : Nat, i + d = l.length → Ev (fun k => api_Site.l0 k l l (l.length : Int) (i : Int)) true := by
  induction d with
  | zero =>
    intro i hi
    refine Ev.step (f := fun _ => some _) (fun k => ?_) (Ev.now _)
    simp only [api_Site.l0]
    rw [if_neg (by omega)]
  | succ d ih =>
    intro i hi
    refine Ev.step (fun k => ?_) (ih (i + 1) (by omega))
    simp only [api_Site.l0]
    rw [if_pos (by omega), if_pos (by omega), if_pos (by omega), if_pos (by omega), if_neg (by simp), wrap_id (by omega) (by omega)]
    rfl
theorem EqualSites_ev (l : List S27) (hl : l.length ≤ 100000) : Ev (fun k => api_Site.f k l l) true := by
  have h := EqualSites_loop l hl l.length 0 (by omega)
  simpa [api_Site.f] using h
end Go.Proofs.Ytonnpocamipbiaa.PPlacesApart
