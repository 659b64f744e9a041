/- For all lists of times, contest windows, moments and widths that the stream draws from a list of numbers, rate.CheckTimes, rate.Hours, rate.In, rate.Rate, rate.Best and rate.Gap answer as the document's reference does. Conditions: none beyond the form's own (the list of numbers is any Go slice of int). -/
import Derived.Test.YtacgcamgfkjbiaaLHoursCountedrates1
import Derived.Test.YtacgcamgfkjbiaaLHoursCountedtimesof
import Derived.Test.YtacgcamgfkjbiaaPHoursCountedx8
namespace Go.Proofs.Ytacgcamgfkjbiaa.Pure
open Go.RowKit Go.Proofs.Ytacgcamgfkjbiaa.PHoursCounted Go.Proofs.YtacgcamgfkjbiaaW.PrintWords Go.Proofs.YtacgcamgfkjbiaaW.PrintLast
theorem j6_true (e : Int) (L : List Int) (hL : L.length ≤ 140737488351232) (eH n eI : Int) (b : Bool) (eR b0 b1 eB : Int) (r0 r1 g0 g1 : Int) :
    Ev (fun k => pilelaw1_HoursCounted.j6 k e L eH n eI b eR b0 b1 eB e eH eI eR eB L n b0 b1 b r0 r1 g0 g1 r0 r1 g0 g1) true := by
  refine Ev.step (f := fun k => (slices_Equal_int_int.f k L L).bind fun t => if t = true then (pilelaw1_rated.f k).bind fun t => some t else some false) (fun k => ?_) ?_
  · simp only [pilelaw1_HoursCounted.j6, if_true, beq_self_eq_true, Bool.and_self]
  · refine Ev.bind (EqualInts_ev L hL) ?_
    simp only [if_true]
    exact Ev.bind rated_ev (Ev.now _)
theorem j5_true (l : List Int) (w0 w1 e : Int) (L : List Int) (hL : L.length ≤ 140737488351232) (eH n eI : Int) (b : Bool) (eR b0 b1 eB : Int) (r0 r1 g0 g1 : Int)
    (hG : if e = 0 then Ev (fun k => pileref1_GapOf.f k l w0 w1) (g0, g1) else g0 = 0 ∧ g1 = 0) :
    Ev (fun k => pilelaw1_HoursCounted.j5 k l e L eH n eI b eR b0 b1 eB e eH eI eR eB L n b0 b1 b w0 w1 r0 r1 g0 g1 r0 r1 0 0) true := by
  by_cases c : e = 0
  · rw [if_pos c] at hG
    refine Ev.step (f := ?f) (fun k => ?h) ?k
    case h =>
      simp only [pilelaw1_HoursCounted.j5, if_pos c]
      exact rfl
    exact Ev.bind hG (j6_true e L hL eH n eI b eR b0 b1 eB r0 r1 g0 g1)
  · rw [if_neg c] at hG
    obtain ⟨rfl, rfl⟩ := hG
    refine Ev.step (fun k => ?_) (j6_true e L hL eH n eI b eR b0 b1 eB r0 r1 0 0)
    simp only [pilelaw1_HoursCounted.j5]
    rw [if_neg c]
theorem j4_true (l : List Int) (long w0 w1 e : Int) (L : List Int) (hL : L.length ≤ 140737488351232) (eH n eI : Int) (b : Bool) (eR b0 b1 eB : Int) (r0 r1 g0 g1 : Int)
    (hG : if e = 0 then Ev (fun k => pileref1_GapOf.f k l w0 w1) (g0, g1) else g0 = 0 ∧ g1 = 0)
    (hB : if eB = 0 then Ev (fun k => pileref1_BestOf.f k l w0 w1 long) (b0, b1) else b0 = 0 ∧ b1 = 0) :
    Ev (fun k => pilelaw1_HoursCounted.j4 k l long e L eH n eI b eR b0 b1 eB e eH eI eR eB L n 0 0 b w0 w1 r0 r1 g0 g1 r0 r1 0 0) true := by
  by_cases c : eB = 0
  · rw [if_pos c] at hB
    refine Ev.step (f := ?f) (fun k => ?h) ?k
    case h =>
      simp only [pilelaw1_HoursCounted.j4, if_pos c]
      exact rfl
    exact Ev.bind hB (j5_true l w0 w1 e L hL eH n eI b eR b0 b1 eB r0 r1 g0 g1 hG)
  · rw [if_neg c] at hB
    obtain ⟨rfl, rfl⟩ := hB
    refine Ev.step (fun k => ?_) (j5_true l w0 w1 e L hL eH n eI b eR 0 0 eB r0 r1 g0 g1 hG)
    simp only [pilelaw1_HoursCounted.j4]
    rw [if_neg c]
theorem j3_true (l : List Int) (at_ long w0 w1 e : Int) (L : List Int) (hL : L.length ≤ 140737488351232) (eH n eI : Int) (b : Bool) (eR b0 b1 eB : Int) (r0 r1 g0 g1 : Int)
    (hG : if e = 0 then Ev (fun k => pileref1_GapOf.f k l w0 w1) (g0, g1) else g0 = 0 ∧ g1 = 0)
    (hB : if eB = 0 then Ev (fun k => pileref1_BestOf.f k l w0 w1 long) (b0, b1) else b0 = 0 ∧ b1 = 0)
    (hR : if eR = 0 then Ev (fun k => pileref1_RateOf.f k l w0 w1 at_ long) (r0, r1, b) else r0 = 0 ∧ r1 = 0 ∧ b = false) :
    Ev (fun k => pilelaw1_HoursCounted.j3 k l at_ long e L eH n eI b eR b0 b1 eB e eH eI eR eB L n 0 0 false w0 w1 r0 r1 g0 g1 0 0 0 0) true := by
  by_cases c : eR = 0
  · rw [if_pos c] at hR
    refine Ev.step (f := ?f) (fun k => ?h) ?k
    case h =>
      simp only [pilelaw1_HoursCounted.j3, if_pos c]
      exact rfl
    exact Ev.bind hR (j4_true l long w0 w1 e L hL eH n eI b eR b0 b1 eB r0 r1 g0 g1 hG hB)
  · rw [if_neg c] at hR
    obtain ⟨rfl, rfl, rfl⟩ := hR
    refine Ev.step (fun k => ?_) (j4_true l long w0 w1 e L hL eH n eI false eR b0 b1 eB 0 0 g0 g1 hG hB)
    simp only [pilelaw1_HoursCounted.j3]
    rw [if_neg c]
theorem j2_true (l : List Int) (at_ long w0 w1 a0 a1 e : Int) (L : List Int) (hL : L.length ≤ 140737488351232) (eH n eI : Int) (b : Bool) (eR b0 b1 eB : Int) (r0 r1 g0 g1 : Int)
    (hG : if e = 0 then Ev (fun k => pileref1_GapOf.f k l w0 w1) (g0, g1) else g0 = 0 ∧ g1 = 0)
    (hB : if eB = 0 then Ev (fun k => pileref1_BestOf.f k l w0 w1 long) (b0, b1) else b0 = 0 ∧ b1 = 0)
    (hR : if eR = 0 then Ev (fun k => pileref1_RateOf.f k l w0 w1 at_ long) (r0, r1, b) else r0 = 0 ∧ r1 = 0 ∧ b = false)
    (hI : if eI = 0 then Ev (fun k => pileref1_InOf.f k l a0 a1) n else n = 0) :
    Ev (fun k => pilelaw1_HoursCounted.j2 k l at_ long e L eH n eI b eR b0 b1 eB e eH eI eR eB L 0 0 0 false w0 w1 a0 a1 r0 r1 g0 g1 0 0 0 0) true := by
  by_cases c : eI = 0
  · rw [if_pos c] at hI
    refine Ev.step (f := ?f) (fun k => ?h) ?k
    case h =>
      simp only [pilelaw1_HoursCounted.j2, if_pos c]
      exact rfl
    exact Ev.bind hI (j3_true l at_ long w0 w1 e L hL eH n eI b eR b0 b1 eB r0 r1 g0 g1 hG hB hR)
  · rw [if_neg c] at hI
    subst hI
    refine Ev.step (fun k => ?_) (j3_true l at_ long w0 w1 e L hL eH 0 eI b eR b0 b1 eB r0 r1 g0 g1 hG hB hR)
    simp only [pilelaw1_HoursCounted.j2]
    rw [if_neg c]
theorem j1_true (l : List Int) (at_ long w0 w1 a0 a1 e : Int) (L : List Int) (hL : L.length ≤ 140737488351232) (eH n eI : Int) (b : Bool) (eR b0 b1 eB : Int) (r0 r1 g0 g1 : Int)
    (hG : if e = 0 then Ev (fun k => pileref1_GapOf.f k l w0 w1) (g0, g1) else g0 = 0 ∧ g1 = 0)
    (hB : if eB = 0 then Ev (fun k => pileref1_BestOf.f k l w0 w1 long) (b0, b1) else b0 = 0 ∧ b1 = 0)
    (hR : if eR = 0 then Ev (fun k => pileref1_RateOf.f k l w0 w1 at_ long) (r0, r1, b) else r0 = 0 ∧ r1 = 0 ∧ b = false)
    (hI : if eI = 0 then Ev (fun k => pileref1_InOf.f k l a0 a1) n else n = 0)
    (hH : if eH = 0 then Ev (fun k => pileref1_HoursOf.f k l w0 w1) L else L = []) :
    Ev (fun k => pilelaw1_HoursCounted.j1 k l at_ long e L eH n eI b eR b0 b1 eB e eH eI eR eB w0 w1 a0 a1 r0 r1 g0 g1) true := by
  by_cases c : eH = 0
  · rw [if_pos c] at hH
    refine Ev.step (f := ?f) (fun k => ?h) ?k
    case h =>
      simp only [pilelaw1_HoursCounted.j1, if_pos c]
      exact rfl
    exact Ev.bind hH (j2_true l at_ long w0 w1 a0 a1 e L hL eH n eI b eR b0 b1 eB r0 r1 g0 g1 hG hB hR hI)
  · rw [if_neg c] at hH
    subst hH
    refine Ev.step (fun k => ?_) (j2_true l at_ long w0 w1 a0 a1 e [] hL eH n eI b eR b0 b1 eB r0 r1 g0 g1 hG hB hR hI)
    simp only [pilelaw1_HoursCounted.j1]
    rw [if_neg c]
theorem Or2_ev (a b : Int) : Ev (fun k => api_Errno.f k [a, b]) (if a = 0 then b else a) := by
  refine ⟨3, fun k hk => ?_⟩
  obtain ⟨k, rfl⟩ : ∃ m, k = m + 3 := ⟨k - 3, by omega⟩
  exact Or2 a b k
theorem hours_same (l : List Int) (w0 w1 : Int) (c : timesV l w0 w1 = 0) : ∃ (L : List Int) (e : Int), hoursR l w0 w1 = (L, e) ∧ L.length ≤ 140737488351232 ∧ pileref1_HoursFault.f w0 w1 = some e ∧ (if e = 0 then Ev (fun k => pileref1_HoursOf.f k l w0 w1) L else L = []) := by
  obtain ⟨hw, h2, hb, hs⟩ := times_ok c
  by_cases d : hoursN w0 w1 > 1000
  · refine ⟨[], 2, ?_, by simp, ?_, by simp⟩
    · simp only [hoursR, if_pos c, if_pos d]
    · rw [HoursFault_eq w0 w1 hw, if_pos d]
  · refine ⟨hoursL l w0 w1, 0, ?_, ?_, ?_, ?_⟩
    · simp only [hoursR, if_pos c, if_neg d]
    · rw [hoursL_length]; omega
    · rw [HoursFault_eq w0 w1 hw, if_neg d]
    · rw [if_pos rfl]
      exact HoursOf_ev l w0 w1 hw h2 hb (by omega)
theorem j0_true (l : List Int) (hl : l.length ≤ 1000) (at_ long w0 w1 a0 a1 : Int) (ha : -1099511627776 ≤ at_ ∧ at_ ≤ 1099511627776) (hg : -1099511627776 ≤ long ∧ long ≤ 1099511627776) :
    Ev (fun k => pilelaw1_HoursCounted.j0 k l at_ long (timesV l w0 w1) w0 w1 a0 a1) true := by
  have hl2 : l.length ≤ 140737488351232 := by omega
  obtain ⟨r, r1, r2⟩ := Rate_both l hl2 w0 w1 at_ long ha hg
  refine Ev.step (f := ?f) (fun k => ?h) ?k
  case h =>
    simp only [pilelaw1_HoursCounted.j0]
    exact rfl
  refine Ev.bind (CheckTimes_ev l hl2 w0 w1) ?_
  simp only [if_true]
  refine Ev.bind (Hours_ev l hl2 w0 w1) (Ev.bind (In_ev l hl2 w0 w1 a0 a1) (Ev.bind r1 (Ev.bind (Best_ev l hl2 w0 w1 long) (Ev.bind (Gap_ev l hl2 w0 w1) ?_))))
  by_cases c : timesV l w0 w1 = 0
  · obtain ⟨L, eH, q1, q2, q3, q4⟩ := hours_same l w0 w1 c
    have r2' := r2 c
    have hG : if (0 : Int) = 0 then Ev (fun k => pileref1_GapOf.f k l w0 w1) (gapV w0 (w0, w0) (l ++ [w1])) else (gapV w0 (w0, w0) (l ++ [w1])).1 = 0 ∧ (gapV w0 (w0, w0) (l ++ [w1])).2 = 0 := by
      rw [if_pos rfl]
      exact GapOf_ev l w0 w1 c
    simp only [inR, bestR, gapR, if_pos c, q1, q3, Option.bind_some]
    refine Ev.bind (WindowFault_ev a0 a1) ?_
    simp only [MomentFault_eq, LongFault_eq, Option.bind_some]
    refine Ev.bind (Or2_ev _ _) ?_
    rw [c]
    by_cases d1 : 0 ≤ a0 ∧ a0 ≤ a1 ∧ a1 ≤ 345686400000 <;> by_cases d2 : 0 ≤ at_ ∧ at_ ≤ 345686399999 <;> by_cases d3 : 60000 ≤ long ∧ long ≤ 86400000
    all_goals
      first | simp only [if_pos d1] | simp only [if_neg d1]
      first | simp only [if_pos d2] | simp only [if_neg d2]
      first | simp only [if_pos d3] | simp only [if_neg d3]
      simp only [if_true, show ¬ ((1 : Int) = 0) by decide, if_false]
      refine j1_true l at_ long w0 w1 a0 a1 0 L q2 eH _ _ _ _ _ _ _ _ _ _ _ hG ?_ ?_ ?_ q4
      · first | (rw [if_pos rfl]; exact BestOf_ev l w0 w1 long c d3) | simp
      · first | (rw [if_pos rfl]; exact r2') | simp
      · first | (rw [if_pos rfl]; exact InOf_ev l hl2 a0 a1) | simp
  · simp only [hoursR, inR, bestR, gapR, if_neg c]
    exact j1_true l at_ long w0 w1 a0 a1 (timesV l w0 w1) [] (by simp) (timesV l w0 w1) 0 (timesV l w0 w1) false (timesV l w0 w1) 0 0 (timesV l w0 w1) 0 0 0 0 (by simp [c]) (by simp [c]) (by simp [c]) (by simp [c]) (by simp [c])
theorem HoursCounted : pilelaw1_HoursCounted.Pure := by
  intro l hl1 hl2 hl3
  have hl : l.length ≤ 140737488351232 := by omega
  obtain ⟨L, w0, w1, s1, e1, n1, s1a, s1b⟩ := TimesOf_spec l 0 (by omega) (by omega) hl
  obtain ⟨r2, e2, m2⟩ := Pick_spec l s1 [0, 1000, 60000, -1] (by omega) (by omega) hl (by simp) (by simp)
  obtain ⟨r3, e3, m3⟩ := Pick_spec l (s1 + 1) [1000, 500000, 8000000, 345686400001] (by omega) (by omega) hl (by simp) (by simp)
  obtain ⟨r4, e4, m4⟩ := Pick_spec l (s1 + 1 + 1) [0, 61000, 3600000, 10000000, -1] (by omega) (by omega) hl (by simp) (by simp)
  obtain ⟨r5, e5, m5⟩ := Pick_spec l (s1 + 1 + 1 + 1) [60000, 900000, 3600000, 0, 86400001] (by omega) (by omega) hl (by simp) (by simp)
  simp only [List.mem_cons, List.not_mem_nil, or_false] at m4 m5
  refine Ev.rounds (Ev.bind e1 ?_)
  simp only [e2, e3, e4, e5, Option.bind_some]
  refine Ev.bind (TimesFault_ev L (by omega) w0 w1) ?_
  exact j0_true L (by omega) r4 r5 w0 w1 r2 r3 (by omega) (by omega)
end Go.Proofs.Ytacgcamgfkjbiaa.Pure
