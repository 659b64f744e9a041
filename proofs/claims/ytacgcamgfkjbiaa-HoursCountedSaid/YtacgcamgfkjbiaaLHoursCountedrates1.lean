/- Plain laws of hours, counts, rates, the best stretch and the longest gap: the program's and the document's come to the same. -/
import Derived.Test.YtacgcamgfkjbiaaLHoursCountedtimes
namespace Go.Proofs.Ytacgcamgfkjbiaa.PHoursCounted
open Go.RowKit Go.Proofs.YtacgcamgfkjbiaaW.PrintWords Go.Proofs.YtacgcamgfkjbiaaW.PrintLast
/-- How many hours a window has, the last one perhaps shorter. -/
def hoursN (w0 w1 : Int) : Int := (w1 - w0 + 3599999) / 3600000
theorem hoursOf_raw (w0 w1 : Int) (h : 0 ≤ w0 ∧ w0 < w1 ∧ w1 ≤ 345686400000) : (wrap64 (Int.tdiv (wrap64 ((wrap64 ((wrap64 (w1 - w0)) + 3600000)) - 1)) 3600000)) = hoursN w0 w1 := by
  rw [wrap_id (e := w1 - w0) (by omega) (by omega), wrap_id (e := w1 - w0 + 3600000) (by omega) (by omega), wrap_id (e := w1 - w0 + 3600000 - 1) (by omega) (by omega), tdiv_pos (by omega), wrap_id (by omega) (by omega)]
  unfold hoursN
  omega
theorem hoursOf_eq (w0 w1 : Int) (h : 0 ≤ w0 ∧ w0 < w1 ∧ w1 ≤ 345686400000) : rate_hoursOf.f w0 w1 = some (hoursN w0 w1) := by
  unfold rate_hoursOf.f
  rw [hoursOf_raw w0 w1 h]
/-- The numbers of a function, as a list. -/
def listOf (f : Nat → Nat) (n : Nat) : List Int := (List.range n).map fun h => (f h : Int)
theorem listOf_length (f : Nat → Nat) (n : Nat) : (listOf f n).length = n := by simp [listOf]
theorem listOf_get (f : Nat → Nat) (n h : Nat) (hh : h < n) : (listOf f n)[h]? = some (f h : Int) := by simp [listOf, hh]
theorem listOf_set (f g : Nat → Nat) (n q : Nat) (hq : q < n) (h1 : g q = f q + 1) (h2 : ∀ h, h ≠ q → g h = f h) : (listOf f n).set q ((f q : Int) + 1) = listOf g n := by
  apply List.ext_getElem?
  intro h
  rw [List.getElem?_set]
  by_cases e : q = h
  · subst e
    rw [if_pos rfl, listOf_length, if_pos hq, listOf_get g n q hq, h1]
    rfl
  · rw [if_neg e]
    by_cases hh : h < n
    · rw [listOf_get f n h hh, listOf_get g n h hh, h2 h (fun e' => e e'.symm)]
    · have l1 : (listOf f n).length ≤ h := by rw [listOf_length]; omega
      have l2 : (listOf g n).length ≤ h := by rw [listOf_length]; omega
      rw [List.getElem?_eq_none l1, List.getElem?_eq_none l2]
theorem listOf_congr (f g : Nat → Nat) (n : Nat) (h : ∀ q, q < n → f q = g q) : listOf f n = listOf g n := by
  unfold listOf
  apply List.map_congr_left
  intro q hq
  rw [h q (List.mem_range.1 hq)]
/-- How many times of some are in hour h. -/
def inHour (l : List Int) (w0 : Int) (h : Nat) : Nat := l.countP fun x => decide ((x - w0) / 3600000 = (h : Int))
theorem inHour_le (l : List Int) (w0 : Int) (h : Nat) : inHour l w0 h ≤ l.length := List.countP_le_length
/-- The hours of a contest. -/
def hoursL (l : List Int) (w0 w1 : Int) : List Int := listOf (inHour l w0) (hoursN w0 w1).toNat
theorem hoursL_length (l : List Int) (w0 w1 : Int) : (hoursL l w0 w1).length = (hoursN w0 w1).toNat := listOf_length _ _
theorem Hours_loop (l : List Int) (w0 w1 : Int) (hw : 0 ≤ w0 ∧ w0 < w1 ∧ w1 ≤ 345686400000) (hl : l.length ≤ 2000) (hb : ∀ x ∈ l, w0 ≤ x ∧ x < w1) (_hn : hoursN w0 w1 ≤ 1000) (d : Nat) : ∀ i : Nat, i + d = l.length →
    Ev (fun k => rate_Hours.l0 k (listOf (inHour (l.take i) w0) (hoursN w0 w1).toNat) l (l.length : Int) (i : Int) w0 w1) (hoursL l w0 w1, 0) := by
  induction d with
  | zero =>
    intro i hi
    refine Ev.step (f := fun _ => some _) (fun k => ?_) (Ev.now _)
    simp only [rate_Hours.l0]
    rw [if_neg (by omega), List.take_of_length_le (by omega)]
    rfl
  | succ d ih =>
    intro i hi
    have hlt : i < l.length := by omega
    obtain ⟨b0, b1⟩ := hb l[i] (List.getElem_mem hlt)
    have hr := rd_get l i hlt
    obtain ⟨q, hq⟩ : ∃ q : Nat, (l[i] - w0) / 3600000 = (q : Int) := ⟨((l[i] - w0) / 3600000).toNat, by omega⟩
    have hqn : q < (hoursN w0 w1).toNat := by unfold hoursN; omega
    have hidx : wrap64 (Int.tdiv (wrap64 (l[i] - w0)) 3600000) = (q : Int) := by
      rw [wrap_id (e := l[i] - w0) (by omega) (by omega), tdiv_pos (by omega), wrap_id (by omega) (by omega), hq]
    have hle := inHour_le (l.take i) w0 q
    rw [List.length_take] at hle
    have hrd : rd (listOf (inHour (l.take i) w0) (hoursN w0 w1).toNat) (q : Int) = (inHour (l.take i) w0 q : Int) := by
      simp [rd, List.getD, listOf_get _ _ _ hqn]
    have ht : l.take (i + 1) = l.take i ++ [l[i]] := by rw [List.take_succ_eq_append_getElem hlt]
    have hset : (listOf (inHour (l.take i) w0) (hoursN w0 w1).toNat).set q ((inHour (l.take i) w0 q : Int) + 1) = listOf (inHour (l.take (i + 1)) w0) (hoursN w0 w1).toNat := by
      refine listOf_set _ _ _ _ hqn ?_ ?_
      · rw [ht]
        simp only [inHour, List.countP_append, List.countP_cons, List.countP_nil, decide_eq_true_eq]
        rw [if_pos hq]
      · intro h hh
        rw [ht]
        simp only [inHour, List.countP_append, List.countP_cons, List.countP_nil, decide_eq_true_eq]
        rw [if_neg (by omega)]
        omega
    refine Ev.step (fun k => ?_) (ih (i + 1) (by omega))
    simp only [rate_Hours.l0]
    rw [if_pos (by omega), if_pos (by omega), if_pos (by omega), hr, hidx, if_pos (by omega), listOf_length, if_pos (by omega), hrd, wrap_id (e := (inHour (l.take i) w0 q : Int) + 1) (by omega) (by omega), Int.toNat_natCast, hset, wrap_id (by omega) (by omega)]
    rfl
/-- What Hours answers. -/
def hoursR (l : List Int) (w0 w1 : Int) : List Int × Int := if timesV l w0 w1 = 0 then (if hoursN w0 w1 > 1000 then ([], 2) else (hoursL l w0 w1, 0)) else ([], timesV l w0 w1)
theorem Hours_ev (l : List Int) (hl : l.length ≤ 140737488351232) (w0 w1 : Int) : Ev (fun k => rate_Hours.f k l w0 w1) (hoursR l w0 w1) := by
  refine Ev.bind (CheckTimes_ev l hl w0 w1) ?_
  unfold hoursR
  by_cases c : timesV l w0 w1 = 0
  · obtain ⟨hw, h2, hb, _⟩ := times_ok c
    simp only [if_pos c, hoursOf_eq w0 w1 hw, Option.bind_some]
    by_cases d : hoursN w0 w1 > 1000
    · simp only [if_pos d]
      exact Ev.now _
    · have h0 : 0 ≤ hoursN w0 w1 := by unfold hoursN; omega
      have h1 : (hoursN w0 w1).toNat ≤ 35184372088832 := by omega
      simp only [if_neg d, if_pos h0, if_pos h1]
      have h := Hours_loop l w0 w1 hw h2 hb (by omega) l.length 0 (by omega)
      have e : listOf (inHour (l.take 0) w0) (hoursN w0 w1).toNat = List.replicate (hoursN w0 w1).toNat 0 := by
        apply List.ext_getElem?
        intro q
        by_cases hq : q < (hoursN w0 w1).toNat
        · rw [listOf_get _ _ _ hq, List.getElem?_replicate, if_pos hq]
          simp [inHour]
        · rw [List.getElem?_eq_none (by rw [listOf_length]; omega), List.getElem?_replicate, if_neg hq]
      rw [e] at h
      exact h
  · simp only [if_neg c]
    exact Ev.now _
theorem HoursFault_eq (w0 w1 : Int) (h : 0 ≤ w0 ∧ w0 < w1 ∧ w1 ≤ 345686400000) : pileref1_HoursFault.f w0 w1 = some (if hoursN w0 w1 > 1000 then 2 else 0) := by
  unfold pileref1_HoursFault.f
  rw [hoursOf_raw w0 w1 h]
  split <;> rfl
theorem HoursOf_loop (l : List Int) (w0 w1 : Int) (hw : 0 ≤ w0 ∧ w0 < w1 ∧ w1 ≤ 345686400000) (hl : l.length ≤ 2000) (hn : hoursN w0 w1 ≤ 1000) (f : Nat → Nat) (hf : ∀ h : Nat, cntIn l (w0 + h * 3600000) (mn (w0 + h * 3600000 + 3600000) w1) = f h) (d : Nat) : ∀ j : Nat, j + d = (hoursN w0 w1).toNat →
    Ev (fun k => pileref1_HoursOf.l0 k l (listOf f j) (w0 + j * 3600000) w0 w1) (listOf f (hoursN w0 w1).toNat) := by
  induction d with
  | zero =>
    intro j hj
    have : ¬ (w0 + (j : Int) * 3600000 < w1) := by unfold hoursN at hj; omega
    refine Ev.step (f := fun _ => some _) (fun k => ?_) (Ev.now _)
    simp only [pileref1_HoursOf.l0]
    rw [if_neg this, show j = (hoursN w0 w1).toNat by omega]
  | succ d ih =>
    intro j hj
    have hlt : w0 + (j : Int) * 3600000 < w1 := by unfold hoursN at hj; omega
    have h := ih (j + 1) (by omega)
    have e : w0 + ((j + 1 : Nat) : Int) * 3600000 = w0 + (j : Int) * 3600000 + 3600000 := by omega
    have e2 : listOf f (j + 1) = listOf f j ++ [(f j : Int)] := by simp [listOf, List.range_succ]
    rw [e, e2] at h
    have hj2 : (j : Int) ≤ 1000 := by omega
    have hlen : (listOf f j).length < 17592186044416 := by rw [listOf_length]; omega
    have hm := manyIn_ev l (by omega) (w0 + (j : Int) * 3600000) (mn (w0 + (j : Int) * 3600000 + 3600000) w1)
    rw [hf j] at hm
    refine Ev.step (f := fun k => (pileref1_manyIn.f k l (w0 + (j : Int) * 3600000) (mn (w0 + (j : Int) * 3600000 + 3600000) w1)).bind fun t => if (listOf f j).length < 17592186044416 then pileref1_HoursOf.l0 k l (listOf f j ++ [t]) (w0 + (j : Int) * 3600000 + 3600000) w0 w1 else none) (fun k => ?_) (Ev.bind hm ?_)
    · simp only [pileref1_HoursOf.l0]
      rw [if_pos hlt, wrap_id (by omega) (by omega)]
    · simp only [if_pos hlen]
      exact h
theorem HoursOf_ev (l : List Int) (w0 w1 : Int) (hw : 0 ≤ w0 ∧ w0 < w1 ∧ w1 ≤ 345686400000) (hl : l.length ≤ 2000) (hb : ∀ x ∈ l, w0 ≤ x ∧ x < w1) (hn : hoursN w0 w1 ≤ 1000) : Ev (fun k => pileref1_HoursOf.f k l w0 w1) (hoursL l w0 w1) := by
  have h := HoursOf_loop l w0 w1 hw hl hn (fun h => cntIn l (w0 + h * 3600000) (mn (w0 + h * 3600000 + 3600000) w1)) (fun _ => rfl) (hoursN w0 w1).toNat 0 (by omega)
  have e : listOf (fun h => cntIn l (w0 + h * 3600000) (mn (w0 + h * 3600000 + 3600000) w1)) (hoursN w0 w1).toNat = hoursL l w0 w1 := by
    refine listOf_congr _ _ _ fun q hq => ?_
    unfold cntIn inHour
    apply List.countP_congr
    intro x hx
    obtain ⟨b0, b1⟩ := hb x hx
    have hm := mn_eq (w0 + (q : Int) * 3600000 + 3600000) w1
    constructor
    · intro c
      have c' := of_decide_eq_true c
      have c0 := c'.1
      have c1 := c'.2
      refine decide_eq_true ?_
      rw [hm] at c1
      split at c1 <;> omega
    · intro c
      have c' := of_decide_eq_true c
      refine decide_eq_true ⟨by omega, ?_⟩
      rw [hm]
      split <;> omega
  rw [e] at h
  simpa [pileref1_HoursOf.f, listOf] using h
theorem WindowFault_ev (a b : Int) : Ev (fun k => pileref1_WindowFault.f k a b) (if 0 ≤ a ∧ a ≤ b ∧ b ≤ 345686400000 then 0 else 1) := by
  refine ⟨1, fun k hk => ?_⟩
  obtain ⟨k, rfl⟩ : ∃ m, k = m + 1 := ⟨k - 1, by omega⟩
  simp only [pileref1_WindowFault.f, pileref1_WindowFault.j0, decide_eq_true_eq, if_true]
  repeat' split
  all_goals first | rfl | omega
theorem IsWindow_eq (a b : Int) : kit_IsWindow.f a b = some (decide (0 ≤ a ∧ a ≤ b ∧ b ≤ 345686400000)) := by
  unfold kit_IsWindow.f
  rw [Outside_eq]
  simp only [Option.bind_some, decide_eq_true_eq]
  split
  · simp; omega
  · rw [Option.some.injEq, decide_eq_decide]; omega
/-- What In answers. -/
def inR (l : List Int) (w0 w1 a b : Int) : Int × Int := if timesV l w0 w1 = 0 then (if 0 ≤ a ∧ a ≤ b ∧ b ≤ 345686400000 then ((cntIn l a b : Int), 0) else (0, 1)) else (0, timesV l w0 w1)
theorem In_ev (l : List Int) (hl : l.length ≤ 140737488351232) (w0 w1 a b : Int) : Ev (fun k => rate_In.f k l w0 w1 a b) (inR l w0 w1 a b) := by
  refine Ev.bind (CheckTimes_ev l hl w0 w1) ?_
  unfold inR
  by_cases c : timesV l w0 w1 = 0
  · obtain ⟨hw, h2, hb, hs⟩ := times_ok c
    simp only [if_pos c, IsWindow_eq, Option.bind_some, decide_eq_true_eq]
    by_cases d : 0 ≤ a ∧ a ≤ b ∧ b ≤ 345686400000
    · simp only [if_pos d]
      exact Ev.bind (in_ev l hl hs a b) (Ev.now _)
    · simp only [if_neg d]
      exact Ev.now _
  · simp only [if_neg c]
    exact Ev.now _
theorem InOf_ev (l : List Int) (hl : l.length ≤ 140737488351232) (a b : Int) : Ev (fun k => pileref1_InOf.f k l a b) (cntIn l a b : Int) := Ev.bind (manyIn_ev l hl a b) (Ev.now _)
theorem isLong_eq (a : Int) : rate_isLong.f a = some (decide (60000 ≤ a ∧ a ≤ 86400000)) := by
  unfold rate_isLong.f
  rw [Outside_eq]
  simp only [Option.bind_some, Option.some.injEq]
  by_cases h : 60000 ≤ a ∧ a ≤ 86400000
  · have h1 : ¬ (a < 60000 ∨ 86400000 < a) := by omega
    simp [h, h1]
  · have h1 : a < 60000 ∨ 86400000 < a := by omega
    simp only [h, h1, decide_true, decide_false, Bool.not_true]
theorem LongFault_eq (a : Int) : pileref1_LongFault.f a = some (if 60000 ≤ a ∧ a ≤ 86400000 then 0 else 1) := by
  unfold pileref1_LongFault.f
  rw [SpanFault_eq]
  rfl
theorem gcd_ev (n : Nat) : ∀ a b : Int, 0 ≤ a → 0 ≤ b → b.toNat ≤ n → 1 ≤ a + b → a ≤ 1000000000000000000 → b ≤ 1000000000000000000 →
    ∃ g, 1 ≤ g ∧ Ev (fun k => pileref1_divisor.l0 k a b) g ∧ ∀ x0 x1, Ev (fun k => kit_Lowest.l0 k x0 x1 a b) (wrap64 (Int.tdiv x0 g), wrap64 (Int.tdiv x1 g)) := by
  induction n with
  | zero =>
    intro a b ha hb hn h1 _ _
    have hb0 : b = 0 := by omega
    subst hb0
    refine ⟨a, by omega, Ev.step (f := fun _ => some _) (fun k => ?_) (Ev.now _), fun x0 x1 => Ev.step (f := fun _ => some _) (fun k => ?_) (Ev.now _)⟩
    · simp only [pileref1_divisor.l0]
      rw [if_pos trivial]
    · simp only [kit_Lowest.l0]
      rw [if_pos trivial, if_neg (by omega)]
  | succ n ih =>
    intro a b ha hb hn h1 h2 h3
    by_cases c : b = 0
    · subst c
      exact ih a 0 ha (by omega) (by omega) h1 h2 (by omega)
    · have m0 : 0 ≤ a % b := Int.emod_nonneg _ c
      have m1 : a % b < b := Int.emod_lt_of_pos _ (by omega)
      obtain ⟨g, g1, g2, g3⟩ := ih b (a % b) hb m0 (by omega) (by omega) h3 (by omega)
      refine ⟨g, g1, Ev.step (fun k => ?_) g2, fun x0 x1 => Ev.step (fun k => ?_) (g3 x0 x1)⟩
      · simp only [pileref1_divisor.l0]
        rw [if_neg c, tmod_pos ha]
      · simp only [kit_Lowest.l0]
        rw [if_neg c, tmod_pos ha]
theorem Lowest_both (a b : Int) (ha : 0 ≤ a) (hb : 1 ≤ b) (h2 : a ≤ 1000000000000000000) (h3 : b ≤ 1000000000000000000) :
    ∃ q, Ev (fun k => kit_Lowest.f k a b) q ∧ Ev (fun k => pileref1_Lowest.f k a b) q := by
  obtain ⟨g, g1, g2, g3⟩ := gcd_ev b.toNat a b ha (by omega) (by omega) (by omega) h2 h3
  refine ⟨_, g3 a b, ?_⟩
  have e : mx a (wrap64 (-a)) = a := by rw [wrap_id (by omega) (by omega), mx_eq, if_neg (by omega)]
  unfold pileref1_Lowest.f pileref1_divisor.f
  rw [e]
  refine Ev.bind g2 ?_
  simp only [show ¬ (g = 0) by omega, if_false]
  exact Ev.now _
theorem Rate_both (l : List Int) (hl : l.length ≤ 140737488351232) (w0 w1 at_ long : Int) (ha : -1099511627776 ≤ at_ ∧ at_ ≤ 1099511627776) (hg : -1099511627776 ≤ long ∧ long ≤ 1099511627776) :
    ∃ r : Int × Int × Bool, Ev (fun k => rate_Rate.f k l w0 w1 at_ long) (if timesV l w0 w1 = 0 then (if 0 ≤ at_ ∧ at_ ≤ 345686399999 then (if 60000 ≤ long ∧ long ≤ 86400000 then (r.1, r.2.1, r.2.2, 0) else (0, 0, false, 1)) else (0, 0, false, 1)) else (0, 0, false, timesV l w0 w1)) ∧
      (timesV l w0 w1 = 0 → Ev (fun k => pileref1_RateOf.f k l w0 w1 at_ long) r) := by
  by_cases c : timesV l w0 w1 = 0
  · obtain ⟨hw, h2, hb, hs⟩ := times_ok c
    have e1 : wrap64 (at_ - long) = at_ - long := wrap_id (by omega) (by omega)
    have hlast : rate_last.f w0 w1 at_ long = some (mx w0 (at_ - long), mn w1 at_) := by unfold rate_last.f; rw [e1]
    have hbef : pileref1_before.f w0 w1 at_ long = some (mx w0 (at_ - long), mn w1 at_) := by
      unfold pileref1_before.f
      rw [e1, mx_eq, mx_eq, mn_eq, mn_eq]
      have f1 : (if at_ - long < w0 then w0 else at_ - long) = (if w0 < at_ - long then at_ - long else w0) := by split <;> split <;> omega
      have f2 : (if w1 < at_ then w1 else at_) = (if at_ < w1 then at_ else w1) := by split <;> split <;> omega
      rw [f1, f2]
    have hlf : ∀ e, (if 0 ≤ at_ ∧ at_ ≤ 345686399999 then (if 60000 ≤ long ∧ long ≤ 86400000 then (0 : Int) else 1) else 1) = e → Ev (fun k => rate_lastFault.f k l w0 w1 at_ long) e := by
      intro e he
      refine Ev.bind (CheckTimes_ev l hl w0 w1) ?_
      simp only [if_pos c, IsMoment_eq, isLong_eq, Option.bind_some, decide_eq_true_eq]
      subst he
      by_cases d1 : 0 ≤ at_ ∧ at_ ≤ 345686399999
      · by_cases d2 : 60000 ≤ long ∧ long ≤ 86400000
        · simp only [if_pos d1, if_pos d2]; exact Ev.now _
        · simp only [if_pos d1, if_neg d2]; exact Ev.now _
      · simp only [if_neg d1]; exact Ev.now _
    by_cases z : mx w0 (at_ - long) ≥ mn w1 at_
    · refine ⟨(0, 0, false), ?_, fun _ => ?_⟩
      · refine Ev.bind (hlf _ rfl) ?_
        simp only [if_pos c]
        by_cases d1 : 0 ≤ at_ ∧ at_ ≤ 345686399999
        · by_cases d2 : 60000 ≤ long ∧ long ≤ 86400000
          · simp only [if_pos d1, if_pos d2, hlast, Option.bind_some, if_pos z, if_true]; exact Ev.now _
          · simp only [if_pos d1, if_neg d2, show ¬ ((1 : Int) = 0) by omega, if_false]; exact Ev.now _
        · simp only [if_neg d1, show ¬ ((1 : Int) = 0) by omega, if_false]; exact Ev.now _
      · simp only [pileref1_RateOf.f, hbef, Option.bind_some, if_pos z]
        exact Ev.now _
    · have hx : -2199023255552 ≤ mx w0 (at_ - long) ∧ mn w1 at_ ≤ 1099511627776 := by
        rw [mx_eq, mn_eq]; constructor <;> split <;> omega
      have hc := cntIn_le l (mx w0 (at_ - long)) (mn w1 at_)
      obtain ⟨q, q1, q2⟩ := Lowest_both ((cntIn l (mx w0 (at_ - long)) (mn w1 at_) : Int) * 3600000) (mn w1 at_ - mx w0 (at_ - long)) (by omega) (by omega) (by omega) (by omega)
      have e2 : wrap64 ((cntIn l (mx w0 (at_ - long)) (mn w1 at_) : Int) * 3600000) = (cntIn l (mx w0 (at_ - long)) (mn w1 at_) : Int) * 3600000 := wrap_id (by omega) (by omega)
      have e3 : wrap64 (mn w1 at_ - mx w0 (at_ - long)) = mn w1 at_ - mx w0 (at_ - long) := wrap_id (by omega) (by omega)
      refine ⟨(q.1, q.2, true), ?_, fun _ => ?_⟩
      · refine Ev.bind (hlf _ rfl) ?_
        simp only [if_pos c]
        by_cases d1 : 0 ≤ at_ ∧ at_ ≤ 345686399999
        · by_cases d2 : 60000 ≤ long ∧ long ≤ 86400000
          · simp only [if_pos d1, if_pos d2, hlast, Option.bind_some, if_neg z, if_true]
            refine Ev.bind (in_ev l hl hs _ _) ?_
            simp only [e2, e3]
            exact Ev.bind q1 (Ev.now _)
          · simp only [if_pos d1, if_neg d2, show ¬ ((1 : Int) = 0) by omega, if_false]; exact Ev.now _
        · simp only [if_neg d1, show ¬ ((1 : Int) = 0) by omega, if_false]; exact Ev.now _
      · simp only [pileref1_RateOf.f, hbef, Option.bind_some, if_neg z]
        refine Ev.bind (manyIn_ev l hl _ _) ?_
        simp only [e2, e3]
        exact Ev.bind q2 (Ev.now _)
  · refine ⟨(0, 0, false), ?_, fun h => absurd h c⟩
    simp only [if_neg c]
    have hlf : Ev (fun k => rate_lastFault.f k l w0 w1 at_ long) (timesV l w0 w1) := by
      refine Ev.bind (CheckTimes_ev l hl w0 w1) ?_
      simp only [if_neg c]
      exact Ev.now _
    refine Ev.bind hlf ?_
    simp only [if_neg c]
    exact Ev.now _
/-- The best stretch, time by time. -/
def bestV (l : List Int) (long : Int) : Int × Int → List Int → Int × Int
  | acc, [] => acc
  | acc, x :: xs => if (cntIn l x (x + long) : Int) > acc.2 then bestV l long (x, cntIn l x (x + long)) xs else bestV l long acc xs
theorem Best_loop (l : List Int) (hl : l.length ≤ 140737488351232) (hs : l.Pairwise (· ≤ ·)) (long : Int) (hg : 0 ≤ long ∧ long ≤ 1099511627776) (hb : ∀ x ∈ l, 0 ≤ x ∧ x ≤ 1099511627776) (d : Nat) : ∀ (i : Nat) (acc : Int × Int), i + d = l.length →
    Ev (fun k => rate_Best.l0 k l long acc.1 acc.2 l (l.length : Int) (i : Int)) ((bestV l long acc (l.drop i)).1, (bestV l long acc (l.drop i)).2, 0) := by
  induction d with
  | zero =>
    intro i acc hi
    refine Ev.step (f := fun _ => some _) (fun k => ?_) (Ev.now _)
    simp only [rate_Best.l0]
    rw [if_neg (by omega), List.drop_of_length_le (by omega)]
    rfl
  | succ d ih =>
    intro i acc hi
    have hlt : i < l.length := by omega
    have hd : l.drop i = l[i] :: l.drop (i + 1) := List.drop_eq_getElem_cons hlt
    have hr := rd_get l i hlt
    obtain ⟨b0, b1⟩ := hb l[i] (List.getElem_mem hlt)
    have hw : wrap64 ((i : Int) + 1) = ((i + 1 : Nat) : Int) := by rw [wrap_id (by omega) (by omega)]; omega
    have hw2 : wrap64 (l[i] + long) = l[i] + long := wrap_id (by omega) (by omega)
    refine Ev.step (f := fun k => (rate_in.f k l l[i] (l[i] + long)).bind fun t => if t > acc.2 then rate_Best.l0 k l long l[i] t l (l.length : Int) ((i + 1 : Nat) : Int) else rate_Best.l0 k l long acc.1 acc.2 l (l.length : Int) ((i + 1 : Nat) : Int)) (fun k => ?_) (Ev.bind (in_ev l hl hs _ _) ?_)
    · simp only [rate_Best.l0]
      rw [if_pos (by omega), if_pos (by omega), if_pos (by omega), hr, hw, hw2]
    · rw [hd]
      simp only [bestV]
      by_cases c : (cntIn l l[i] (l[i] + long) : Int) > acc.2
      · simp only [if_pos c]
        exact ih (i + 1) (l[i], (cntIn l l[i] (l[i] + long) : Int)) (by omega)
      · simp only [if_neg c]
        exact ih (i + 1) acc (by omega)
/-- What Best answers. -/
def bestR (l : List Int) (w0 w1 long : Int) : Int × Int × Int := if timesV l w0 w1 = 0 then (if 60000 ≤ long ∧ long ≤ 86400000 then ((bestV l long (w0, cntIn l w0 (w0 + long)) l).1, (bestV l long (w0, cntIn l w0 (w0 + long)) l).2, 0) else (0, 0, 1)) else (0, 0, timesV l w0 w1)
theorem Best_ev (l : List Int) (hl : l.length ≤ 140737488351232) (w0 w1 long : Int) : Ev (fun k => rate_Best.f k l w0 w1 long) (bestR l w0 w1 long) := by
  refine Ev.bind (CheckTimes_ev l hl w0 w1) ?_
  unfold bestR
  by_cases c : timesV l w0 w1 = 0
  · obtain ⟨hw, h2, hb, hs⟩ := times_ok c
    simp only [if_pos c, isLong_eq, Option.bind_some, decide_eq_true_eq]
    by_cases d : 60000 ≤ long ∧ long ≤ 86400000
    · have hw2 : wrap64 (w0 + long) = w0 + long := wrap_id (by omega) (by omega)
      simp only [if_pos d, hw2]
      refine Ev.bind (in_ev l hl hs _ _) ?_
      have h := Best_loop l hl hs long (by omega) (fun x hx => by have := hb x hx; omega) l.length 0 (w0, (cntIn l w0 (w0 + long) : Int)) (by omega)
      simpa using h
    · simp only [if_neg d]
      exact Ev.now _
  · simp only [if_neg c]
    exact Ev.now _
theorem BestOf_loop (l : List Int) (hl : l.length ≤ 140737488351232) (long : Int) (hg : 0 ≤ long ∧ long ≤ 1099511627776) (hb : ∀ x ∈ l, 0 ≤ x ∧ x ≤ 1099511627776) (d : Nat) : ∀ (i : Nat) (acc : Int × Int), i + d = l.length →
    Ev (fun k => pileref1_BestOf.l0 k l long acc.1 acc.2 l (l.length : Int) (i : Int)) (bestV l long acc (l.drop i)) := by
  induction d with
  | zero =>
    intro i acc hi
    refine Ev.step (f := fun _ => some _) (fun k => ?_) (Ev.now _)
    simp only [pileref1_BestOf.l0]
    rw [if_neg (by omega), List.drop_of_length_le (by omega)]
    rfl
  | succ d ih =>
    intro i acc hi
    have hlt : i < l.length := by omega
    have hd : l.drop i = l[i] :: l.drop (i + 1) := List.drop_eq_getElem_cons hlt
    have hr := rd_get l i hlt
    obtain ⟨b0, b1⟩ := hb l[i] (List.getElem_mem hlt)
    have hw : wrap64 ((i : Int) + 1) = ((i + 1 : Nat) : Int) := by rw [wrap_id (by omega) (by omega)]; omega
    have hw2 : wrap64 (l[i] + long) = l[i] + long := wrap_id (by omega) (by omega)
    refine Ev.step (f := fun k => (pileref1_manyIn.f k l l[i] (l[i] + long)).bind fun t => if t > acc.2 then pileref1_BestOf.l0 k l long l[i] t l (l.length : Int) ((i + 1 : Nat) : Int) else pileref1_BestOf.l0 k l long acc.1 acc.2 l (l.length : Int) ((i + 1 : Nat) : Int)) (fun k => ?_) (Ev.bind (manyIn_ev l hl _ _) ?_)
    · simp only [pileref1_BestOf.l0]
      rw [if_pos (by omega), if_pos (by omega), if_pos (by omega), hr, hw, hw2]
    · rw [hd]
      simp only [bestV]
      by_cases c : (cntIn l l[i] (l[i] + long) : Int) > acc.2
      · simp only [if_pos c]
        exact ih (i + 1) (l[i], (cntIn l l[i] (l[i] + long) : Int)) (by omega)
      · simp only [if_neg c]
        exact ih (i + 1) acc (by omega)
theorem BestOf_ev (l : List Int) (w0 w1 long : Int) (c : timesV l w0 w1 = 0) (d : 60000 ≤ long ∧ long ≤ 86400000) : Ev (fun k => pileref1_BestOf.f k l w0 w1 long) (bestV l long (w0, cntIn l w0 (w0 + long)) l) := by
  obtain ⟨hw, h2, hb, hs⟩ := times_ok c
  have hw2 : wrap64 (w0 + long) = w0 + long := wrap_id (by omega) (by omega)
  simp only [pileref1_BestOf.f, hw2]
  refine Ev.bind (manyIn_ev l (by omega) _ _) ?_
  have h := BestOf_loop l (by omega) long (by omega) (fun x hx => by have := hb x hx; omega) l.length 0 (w0, (cntIn l w0 (w0 + long) : Int)) (by omega)
  simpa using h
theorem rated_ev : Ev (fun k => pilelaw1_rated.f k) true := by
  have h := Best_ev [0, 600000, 1200000] (by simp) 0 3600000 900000
  have e : bestR [0, 600000, 1200000] 0 3600000 900000 = (0, 2, 0) := by decide +kernel
  rw [e] at h
  refine Ev.bind h ?_
  exact Ev.now _
/-- The longest gap, time by time: the last time, the best gap. -/
def gapV : Int → Int × Int → List Int → Int × Int
  | _, best, [] => best
  | from_, best, x :: xs => gapV x (if x - from_ > best.2 - best.1 then (from_, x) else best) xs
theorem Gap_loop (l : List Int) (hl : l.length ≤ 140737488351232) (hb : ∀ x ∈ l, 0 ≤ x ∧ x ≤ 1099511627776) (d : Nat) : ∀ (i : Nat) (f : Int) (best : Int × Int), i + d = l.length → (0 ≤ f ∧ f ≤ 1099511627776) → (0 ≤ best.1 ∧ best.1 ≤ 1099511627776) → (0 ≤ best.2 ∧ best.2 ≤ 1099511627776) →
    Ev (fun k => rate_Gap.l0 k f l (l.length : Int) (i : Int) best.1 best.2) ((gapV f best (l.drop i)).1, (gapV f best (l.drop i)).2, 0) := by
  induction d with
  | zero =>
    intro i f best hi _ _ _
    refine Ev.step (f := fun _ => some _) (fun k => ?_) (Ev.now _)
    simp only [rate_Gap.l0]
    rw [if_neg (by omega), List.drop_of_length_le (by omega)]
    rfl
  | succ d ih =>
    intro i f best hi hf h1 h2
    have hlt : i < l.length := by omega
    have hd : l.drop i = l[i] :: l.drop (i + 1) := List.drop_eq_getElem_cons hlt
    have hr := rd_get l i hlt
    obtain ⟨b0, b1⟩ := hb l[i] (List.getElem_mem hlt)
    have hw : wrap64 ((i : Int) + 1) = ((i + 1 : Nat) : Int) := by rw [wrap_id (by omega) (by omega)]; omega
    have e1 : wrap64 (l[i] - f) = l[i] - f := wrap_id (by omega) (by omega)
    have e2 : wrap64 (best.2 - best.1) = best.2 - best.1 := wrap_id (by omega) (by omega)
    rw [hd]
    simp only [gapV]
    by_cases c : l[i] - f > best.2 - best.1
    · rw [if_pos c]
      refine Ev.step (fun k => ?_) (ih (i + 1) l[i] (f, l[i]) (by omega) ⟨b0, b1⟩ hf ⟨b0, b1⟩)
      simp only [rate_Gap.l0]
      rw [if_pos (by omega), if_pos (by omega), if_pos (by omega), hr, e1, e2, if_pos c, hw]
    · rw [if_neg c]
      refine Ev.step (fun k => ?_) (ih (i + 1) l[i] best (by omega) ⟨b0, b1⟩ h1 h2)
      simp only [rate_Gap.l0]
      rw [if_pos (by omega), if_pos (by omega), if_pos (by omega), hr, e1, e2, if_neg c, hw]
/-- What Gap answers. -/
def gapR (l : List Int) (w0 w1 : Int) : Int × Int × Int := if timesV l w0 w1 = 0 then ((gapV w0 (w0, w0) (l ++ [w1])).1, (gapV w0 (w0, w0) (l ++ [w1])).2, 0) else (0, 0, timesV l w0 w1)
theorem Clone_eq (l : List Int) (h : l.length ≤ 2000) : slices_Clone_int_int.f l = some l := by
  unfold slices_Clone_int_int.f
  simp only [Option.bind_some, List.nil_append, List.length_nil, Nat.zero_add]
  rw [if_pos (by omega)]
theorem Gap_ev (l : List Int) (hl : l.length ≤ 140737488351232) (w0 w1 : Int) : Ev (fun k => rate_Gap.f k l w0 w1) (gapR l w0 w1) := by
  refine Ev.bind (CheckTimes_ev l hl w0 w1) ?_
  unfold gapR
  by_cases c : timesV l w0 w1 = 0
  · obtain ⟨hw, h2, hb, hs⟩ := times_ok c
    have hlen : l.length + [w1].length < 17592186044416 := by simp; omega
    simp only [if_pos c, Clone_eq l h2, Option.bind_some, if_pos hlen]
    have h := Gap_loop (l ++ [w1]) (by simp; omega) (fun x hx => by
      rcases List.mem_append.1 hx with hx | hx
      · have := hb x hx; omega
      · simp at hx; omega) (l ++ [w1]).length 0 w0 (w0, w0) (by omega) (by omega) (by simp; omega) (by simp; omega)
    simpa using h
  · simp only [if_neg c]
    exact Ev.now _
/-- The gaps between times, and the ends of the contest. -/
def gapsV (begun : Int) (w1 : Int) : Int → List Int → List S27
  | from_, [] => [⟨from_, w1⟩]
  | from_, x :: xs => ⟨from_, x⟩ :: gapsV begun w1 (x + begun) xs
theorem gapsV_length (begun w1 : Int) (l : List Int) : ∀ f, (gapsV begun w1 f l).length = l.length + 1 := by
  induction l with
  | nil => intro f; rfl
  | cons x l ih => intro f; simp [gapsV, ih]
theorem gaps_loop (l : List Int) (hl : l.length ≤ 2000) (begun w0 w1 : Int) (hg : 0 ≤ begun ∧ begun ≤ 1000) (hb : ∀ x ∈ l, 0 ≤ x ∧ x ≤ 1099511627776) (d : Nat) : ∀ (i : Nat) (f : Int) (acc : List S27), i + d = l.length → acc.length ≤ i →
    Ev (fun k => pileref1_gaps.l0 k begun f acc l (l.length : Int) (i : Int) w0 w1) (acc ++ gapsV begun w1 f (l.drop i)) := by
  induction d with
  | zero =>
    intro i f acc hi ha
    refine Ev.step (f := fun _ => some _) (fun k => ?_) (Ev.now _)
    simp only [pileref1_gaps.l0]
    rw [if_neg (by omega), List.drop_of_length_le (by omega), if_pos (by omega)]
    rfl
  | succ d ih =>
    intro i f acc hi ha
    have hlt : i < l.length := by omega
    have hd : l.drop i = l[i] :: l.drop (i + 1) := List.drop_eq_getElem_cons hlt
    have hr := rd_get l i hlt
    obtain ⟨b0, b1⟩ := hb l[i] (List.getElem_mem hlt)
    have hw : wrap64 ((i : Int) + 1) = ((i + 1 : Nat) : Int) := by rw [wrap_id (by omega) (by omega)]; omega
    have h := ih (i + 1) (l[i] + begun) (acc ++ [⟨f, l[i]⟩]) (by omega) (by simp; omega)
    rw [List.append_assoc] at h
    rw [hd]
    refine Ev.step (fun k => ?_) h
    simp only [pileref1_gaps.l0]
    rw [if_pos (by omega), if_pos (by omega), if_pos (by omega), if_pos (by omega), hr, hw, wrap_id (e := l[i] + begun) (by omega) (by omega)]
theorem gaps_ev (l : List Int) (hl : l.length ≤ 2000) (begun w0 w1 : Int) (hg : 0 ≤ begun ∧ begun ≤ 1000) (hb : ∀ x ∈ l, 0 ≤ x ∧ x ≤ 1099511627776) : Ev (fun k => pileref1_gaps.f k l w0 w1 begun) (gapsV begun w1 w0 l) := by
  have h := gaps_loop l hl begun w0 w1 hg hb l.length 0 w0 [] (by omega) (by simp)
  simpa [pileref1_gaps.f] using h
theorem rdT_get (l : List S27) (i : Nat) (h : i < l.length) : rd_T27 l (i : Int) = l[i] := by
  simp [rd_T27, List.getD, List.getElem?_eq_getElem h]
/-- The best of some gaps. -/
def gapBest : Int × Int → List S27 → Int × Int
  | best, [] => best
  | best, g :: gs => gapBest (if g.f1 - g.f0 > best.2 - best.1 then (g.f0, g.f1) else best) gs
theorem GapOf_loop (l : List S27) (hl : l.length ≤ 3000) (hb : ∀ g ∈ l, (0 ≤ g.f0 ∧ g.f0 ≤ 1099511627776) ∧ (0 ≤ g.f1 ∧ g.f1 ≤ 1099511627776)) (d : Nat) : ∀ (i : Nat) (best : Int × Int), i + d = l.length → 1 ≤ i → (0 ≤ best.1 ∧ best.1 ≤ 1099511627776) → (0 ≤ best.2 ∧ best.2 ≤ 1099511627776) →
    Ev (fun k => pileref1_GapOf.l0 k l (l.length : Int) (i : Int) best.1 best.2) (gapBest best (l.drop i)) := by
  induction d with
  | zero =>
    intro i best hi _ _ _
    refine Ev.step (f := fun _ => some _) (fun k => ?_) (Ev.now _)
    simp only [pileref1_GapOf.l0]
    rw [if_neg (by omega), List.drop_of_length_le (by omega)]
    rfl
  | succ d ih =>
    intro i best hi h0 h1 h2
    have hlt : i < l.length := by omega
    have hd : l.drop i = l[i] :: l.drop (i + 1) := List.drop_eq_getElem_cons hlt
    have hr := rdT_get l i hlt
    obtain ⟨b0, b1⟩ := hb l[i] (List.getElem_mem hlt)
    have hw : wrap64 ((i : Int) + 1) = ((i + 1 : Nat) : Int) := by rw [wrap_id (by omega) (by omega)]; omega
    have e1 : wrap64 (l[i].f1 - l[i].f0) = l[i].f1 - l[i].f0 := wrap_id (by omega) (by omega)
    have e2 : wrap64 (best.2 - best.1) = best.2 - best.1 := wrap_id (by omega) (by omega)
    rw [hd]
    simp only [gapBest]
    by_cases c : l[i].f1 - l[i].f0 > best.2 - best.1
    · rw [if_pos c]
      refine Ev.step (fun k => ?_) (ih (i + 1) (l[i].f0, l[i].f1) (by omega) (by omega) b0 b1)
      simp only [pileref1_GapOf.l0]
      rw [if_pos (by omega), if_pos (by omega), if_pos (by omega), if_neg (by omega), hr, e1, e2, if_pos c, hw]
    · rw [if_neg c]
      refine Ev.step (fun k => ?_) (ih (i + 1) best (by omega) (by omega) h1 h2)
      simp only [pileref1_GapOf.l0]
      rw [if_pos (by omega), if_pos (by omega), if_pos (by omega), if_neg (by omega), hr, e1, e2, if_neg c, hw]
theorem gap_same (w1 : Int) (l : List Int) : ∀ (f : Int) (best : Int × Int), gapBest best (gapsV 0 w1 f l) = gapV f best (l ++ [w1]) := by
  induction l with
  | nil => intro f best; rfl
  | cons x l ih =>
    intro f best
    simp only [gapsV, gapBest, List.cons_append, gapV, Int.add_zero]
    exact ih x _
theorem gaps_in (w1 : Int) (hw : 0 ≤ w1 ∧ w1 ≤ 1099511627776) (l : List Int) : ∀ (f : Int), (0 ≤ f ∧ f ≤ 1099511627776) → (∀ x ∈ l, 0 ≤ x ∧ x ≤ 1099511627776) → ∀ g ∈ gapsV 0 w1 f l, (0 ≤ g.f0 ∧ g.f0 ≤ 1099511627776) ∧ (0 ≤ g.f1 ∧ g.f1 ≤ 1099511627776) := by
  induction l with
  | nil =>
    intro f hf _ g hg
    simp only [gapsV, List.mem_cons, List.not_mem_nil, or_false] at hg
    subst hg
    exact ⟨hf, hw⟩
  | cons x l ih =>
    intro f hf hb g hg
    have hx := hb x (by simp)
    simp only [gapsV, List.mem_cons] at hg
    rcases hg with rfl | hg
    · exact ⟨hf, hx⟩
    · rw [Int.add_zero] at hg
      exact ih x hx (fun y hy => hb y (by simp [hy])) g hg
theorem GapOf_ev (l : List Int) (w0 w1 : Int) (c : timesV l w0 w1 = 0) : Ev (fun k => pileref1_GapOf.f k l w0 w1) (gapV w0 (w0, w0) (l ++ [w1])) := by
  obtain ⟨hw, h2, hb, hs⟩ := times_ok c
  have hb' : ∀ x ∈ l, 0 ≤ x ∧ x ≤ 1099511627776 := fun x hx => by have := hb x hx; omega
  refine Ev.bind (gaps_ev l h2 0 w0 w1 (by omega) hb') ?_
  have hlen := gapsV_length 0 w1 l w0
  have hin := gaps_in w1 (by omega) l w0 (by omega) hb'
  rw [← gap_same]
  generalize hG : gapsV 0 w1 w0 l = G at *
  cases G with
  | nil => simp at hlen
  | cons g G =>
    have hg := hin g (by simp)
    have hr := rdT_get (g :: G) 0 (by simp)
    have h := GapOf_loop (g :: G) (by omega) hin G.length 1 (g.f0, g.f1) (by simp; omega) (by omega) hg.1 hg.2
    have hfirst : gapBest (w0, w0) (g :: G) = gapBest (g.f0, g.f1) G := by
      simp only [gapBest]
      have hg0 : g.f0 = w0 ∧ w0 ≤ g.f1 := by
        cases l with
        | nil => simp only [gapsV, List.cons.injEq] at hG; obtain ⟨rfl, _⟩ := hG; exact ⟨rfl, by simp; omega⟩
        | cons x l => simp only [gapsV, List.cons.injEq] at hG; obtain ⟨rfl, _⟩ := hG; exact ⟨rfl, (hb x (by simp)).1⟩
      by_cases e : g.f1 - g.f0 > w0 - w0
      · simp only [if_pos e]
      · simp only [if_neg e]
        rw [show g.f1 = w0 by omega, hg0.1]
    rw [hfirst]
    have h1 : (g :: G).drop 1 = G := rfl
    rw [h1] at h
    refine Ev.step (fun k => ?_) h
    simp only [pileref1_GapOf.l0]
    have z : ((0 : Nat) : Int) = 0 := rfl
    rw [z] at hr
    rw [if_pos (by omega), if_pos (by omega), if_pos (by omega), if_pos trivial, hr, wrap_id (by omega) (by omega)]
    rfl
end Go.Proofs.Ytacgcamgfkjbiaa.PHoursCounted
