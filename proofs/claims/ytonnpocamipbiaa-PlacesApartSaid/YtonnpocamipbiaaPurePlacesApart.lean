/- For all angles, sites, numbers of parts and locators that the stream draws from a list of numbers, place.Cosine, place.Distance, place.Wind, place.Way and place.Farthest answer as the document's reference does. Conditions: none beyond the form's own (the list of numbers is any Go slice of int). -/
import Derived.Test.YtonnpocamipbiaaLPlacesApartfar
import Derived.Test.YtonnpocamipbiaaLPlacesApartlocgen
import Derived.Test.YtonnpocamipbiaaPPlacesApartx9
namespace Go.Proofs.Ytonnpocamipbiaa.Pure
open Go.RowKit Go.Proofs.Ytonnpocamipbiaa.PPlacesApart Go.Proofs.YtonnpocamipbiaaW.PrintWords Go.Proofs.YtonnpocamipbiaaW.PrintLast
set_option linter.unusedSimpArgs false
theorem placed_ev : Ev (fun k => pilelaw1_placed.f k) true := by
  refine ⟨2, fun k hk => ?_⟩
  obtain ⟨k, rfl⟩ : ∃ m, k = m + 2 := ⟨k - 2, by omega⟩
  exact placed_eq k
theorem Or3_ev (a b c : Int) : Ev (fun k => api_Errno.f k [a, b, c]) (if a = 0 then (if b = 0 then c else b) else a) := by
  refine ⟨4, fun k hk => ?_⟩
  obtain ⟨k, rfl⟩ : ∃ m, k = m + 4 := ⟨k - 4, by omega⟩
  exact Or3 a b c k
theorem Or2_ev (a b : Int) : Ev (fun k => api_Errno.f k [a, b]) (if a = 0 then b else a) := by
  refine ⟨3, fun k hk => ?_⟩
  obtain ⟨k, rfl⟩ : ∃ m, k = m + 3 := ⟨k - 3, by omega⟩
  exact Or2 a b k
theorem j7_fault (s : ByteArray) (L : List ByteArray) (e : Int) : Ev (fun k => pilelaw1_PlacesApart.j7 k s L 0 0 e e true) true := by
  refine Ev.step (f := ?f1) (fun k => ?h1) ?k1
  case h1 =>
    simp only [pilelaw1_PlacesApart.j7, if_true]
    exact rfl
  exact Ev.bind placed_ev (Ev.now _)
theorem j7_right (s : ByteArray) (L : List ByteArray) (r : Int × Int) (h : Ev (fun k => pileref1_FarthestOf.f k s L) r) : Ev (fun k => pilelaw1_PlacesApart.j7 k s L r.1 r.2 0 0 false) true := by
  refine Ev.step (f := ?f2) (fun k => ?h2) ?k2
  case h2 =>
    simp only [pilelaw1_PlacesApart.j7, Bool.false_eq_true, if_false, if_true]
    exact rfl
  refine Ev.bind h ?_
  simp only [if_true]
  exact Ev.bind placed_ev (Ev.now _)
theorem j6_true (s : ByteArray) (L : List ByteArray) (hL : L.length ≤ 2000) : Ev (fun k => pilelaw1_PlacesApart.j6 k s L false) true := by
  obtain ⟨r, r1, r2⟩ := Farthest_both s L hL
  refine Ev.step (f := ?f3) (fun k => ?h3) ?k3
  case h3 =>
    simp only [pilelaw1_PlacesApart.j6, Bool.false_eq_true, if_false]
    exact rfl
  refine Ev.bind r1 ?_
  simp only [LocatorFault_eq, Option.bind_some, pileref1_NoneFault.f]
  by_cases hs : locR s = true
  · by_cases z : L.length = 0
    · have z' : ((L.length : Int) == 0) = true := by rw [beq_iff_eq]; omega
      simp only [if_pos hs, if_pos z, z', if_true, Option.bind_some]
      refine Ev.bind (LocatorsFault_ev L hL) (Ev.bind (Or3_ev _ _ _) ?_)
      exact j7_fault s L 8
    · have z' : ((L.length : Int) == 0) = false := by rw [beq_eq_false_iff_ne]; omega
      by_cases ha : L.all locR = true
      · simp only [if_pos hs, if_neg z, z', if_pos ha, Bool.false_eq_true, if_false, Option.bind_some]
        have hf := LocatorsFault_ev L hL
        rw [if_pos ha] at hf
        refine Ev.bind hf (Ev.bind (Or3_ev _ _ _) ?_)
        exact j7_right s L r (r2 hs z ha)
      · simp only [if_pos hs, if_neg z, z', if_neg ha, Bool.false_eq_true, if_false, Option.bind_some]
        have hf := LocatorsFault_ev L hL
        rw [if_neg ha] at hf
        refine Ev.bind hf (Ev.bind (Or3_ev _ _ _) ?_)
        exact j7_fault s L 3
  · simp only [if_neg hs]
    have hn : Ev (fun _ : Nat => if ((L.length : Int) == 0) = true then some 8 else some 0) (if ((L.length : Int) == 0) = true then (8 : Int) else 0) := by
      split <;> exact Ev.now _
    refine Ev.bind hn (Ev.bind (LocatorsFault_ev L hL) (Ev.bind (Or3_ev _ _ _) ?_))
    exact j7_fault s L 3
theorem j5_true (s : ByteArray) (L : List ByteArray) (hL : L.length ≤ 2000) (W : List S27) (hW : W.length ≤ 2000) (f d w wf g : Int) : Ev (fun k => pilelaw1_PlacesApart.j5 k s L f f d w wf W g d w wf g W) true := by
  refine Ev.step (f := ?f4) (fun k => ?h4) ?k4
  case h4 =>
    simp only [pilelaw1_PlacesApart.j5, if_true]
    exact rfl
  refine Ev.bind (EqualSites_ev W (by omega)) ?_
  exact j6_true s L hL
theorem j4_true (s : ByteArray) (L : List ByteArray) (hL : L.length ≤ 2000) (p : Int) (W : List S27) (hW : W.length ≤ 2000) (f d w wf g a0 a1 b0 b1 : Int) (h : if g = 0 then Ev (fun k => pileref1_WayOf.f k a0 a1 b0 b1 p) W else W = []) :
    Ev (fun k => pilelaw1_PlacesApart.j4 k p s L f f d w wf W g d w wf g [] a0 a1 b0 b1) true := by
  by_cases c : g = 0
  · rw [if_pos c] at h
    refine Ev.step (f := ?f5) (fun k => ?h5) ?k5
    case h5 =>
      simp only [pilelaw1_PlacesApart.j4, if_pos c]
      exact rfl
    exact Ev.bind h (j5_true s L hL W hW f d w wf g)
  · rw [if_neg c] at h
    subst h
    refine Ev.step (f := ?f6) (fun k => ?h6) ?k6
    case h6 =>
      simp only [pilelaw1_PlacesApart.j4, if_neg c]
      exact rfl
    exact j5_true s L hL [] hW f d w wf g
theorem j2_true (s : ByteArray) (L : List ByteArray) (hL : L.length ≤ 2000) (p a0 a1 b0 b1 : Int) (hp : -1000000 ≤ p ∧ p ≤ 1000000) : Ev (fun k => pilelaw1_PlacesApart.j2 k p s L false a0 a1 b0 b1) true := by
  refine Ev.step (f := ?f7) (fun k => ?h7) ?k7
  case h7 =>
    simp only [pilelaw1_PlacesApart.j2, Bool.false_eq_true, if_false, SiteFault_eq, Option.bind_some]
    exact rfl
  refine Ev.bind (Or2_ev _ _) ?_
  by_cases hR : ((-324000 ≤ a0 ∧ a0 ≤ 324000) ∧ -648000 ≤ a1 ∧ a1 ≤ 647999) ∧ ((-324000 ≤ b0 ∧ b0 ≤ 324000) ∧ -648000 ≤ b1 ∧ b1 ≤ 647999)
  · obtain ⟨r, r1, r2⟩ := dist_both a0 a1 b0 b1 hR.1 hR.2
    obtain ⟨W, w1, w2, w3⟩ := Way_both a0 a1 b0 b1 p hR.1 hR.2 hp
    obtain ⟨v1, v2⟩ := windV_ok (metresV a0 a1 b0 b1).1 (metresV a0 a1 b0 b1).2
    have hD : Ev (fun k => place_Distance.f k a0 a1 b0 b1) (r, 0) := by
      simp only [place_Distance.f, checkBoth_eq, if_pos hR, Option.bind_some, if_true]
      exact Ev.bind r1 (Ev.now _)
    simp only [if_pos hR.1, if_pos hR.2, if_true]
    refine Ev.bind hD ?_
    refine Ev.step (f := ?f8) (fun k => ?h8) ?k8
    case h8 =>
      simp only [pilelaw1_PlacesApart.j3, SpanFault_eq, Option.bind_some, if_true]
      exact rfl
    refine Ev.bind (Wind_ev a0 a1 b0 b1 hR.1 hR.2) (Ev.bind w1 (Ev.bind (Or2_ev _ _) ?_))
    simp only [if_true]
    refine Ev.bind r2 (Ev.bind (WindOf_ev a0 a1 b0 b1 hR.1 hR.2) ?_)
    rw [v1, v2]
    have hN : pileref1_NoneFault.f (decide (windO (metresV a0 a1 b0 b1).1 (metresV a0 a1 b0 b1).2 < 0)) = some (if windO (metresV a0 a1 b0 b1).1 (metresV a0 a1 b0 b1).2 < 0 then 8 else 0) := by
      unfold pileref1_NoneFault.f
      simp only [decide_eq_true_eq]
      split <;> rfl
    simp only [hN, Option.bind_some]
    refine j4_true s L hL p W w3 0 r _ _ _ a0 a1 b0 b1 ?_
    by_cases c : 1 ≤ p ∧ p ≤ 1000
    · rw [if_pos c] at w2
      simp only [if_pos c, if_true]
      exact w2
    · rw [if_neg c] at w2
      simp only [if_neg c, show ¬ ((1 : Int) = 0) by decide, if_false]
      exact w2
  · have hf : (if (if (-324000 ≤ a0 ∧ a0 ≤ 324000) ∧ -648000 ≤ a1 ∧ a1 ≤ 647999 then (0 : Int) else 1) = 0 then (if (-324000 ≤ b0 ∧ b0 ≤ 324000) ∧ -648000 ≤ b1 ∧ b1 ≤ 647999 then (0 : Int) else 1) else (if (-324000 ≤ a0 ∧ a0 ≤ 324000) ∧ -648000 ≤ a1 ∧ a1 ≤ 647999 then 0 else 1)) = 1 := by
      by_cases h1 : (-324000 ≤ a0 ∧ a0 ≤ 324000) ∧ -648000 ≤ a1 ∧ a1 ≤ 647999
      · rw [if_pos h1, if_pos rfl, if_neg (fun h2 => hR ⟨h1, h2⟩)]
      · rw [if_neg h1, if_neg (by decide)]
    rw [hf]
    have n1 : ¬ ((1 : Int) = 0) := by decide
    have hD : Ev (fun k => place_Distance.f k a0 a1 b0 b1) (0, 1) := by
      simp only [place_Distance.f, checkBoth_eq, if_neg hR, Option.bind_some, if_neg n1]
      exact Ev.now _
    have hW : Ev (fun k => place_Wind.f k a0 a1 b0 b1) (0, 1) := by
      simp only [place_Wind.f, checkBoth_eq, if_neg hR, Option.bind_some, if_neg n1]
      exact Ev.now _
    have hY : Ev (fun k => place_Way.f k a0 a1 b0 b1 p) ([], 1) := by
      simp only [place_Way.f, checkBoth_eq, if_neg hR, Option.bind_some, if_neg n1]
      exact Ev.now _
    refine Ev.bind hD ?_
    refine Ev.step (f := ?f9) (fun k => ?h9) ?k9
    case h9 =>
      simp only [pilelaw1_PlacesApart.j3, SpanFault_eq, Option.bind_some, if_neg n1]
      exact rfl
    refine Ev.bind hW (Ev.bind hY (Ev.bind (Or2_ev _ _) ?_))
    simp only [if_neg n1]
    exact j4_true s L hL p [] (by simp) 1 0 0 1 1 a0 a1 b0 b1 (by rw [if_neg n1])
theorem j1_true (l : List Int) (hl : l.length ≤ 140737488351232) (s0 : Int) (h0 : 0 ≤ s0) (h1 : s0 ≤ 4611686018427000000) (s : ByteArray) (L : List ByteArray) (hL : L.length ≤ 2000) (p a0 a1 b0 b1 : Int) (hp : -1000000 ≤ p ∧ p ≤ 1000000) : Ev (fun k => pilelaw1_PlacesApart.j1 k p s L l s0 a0 a1 b0 b1) true := by
  obtain ⟨r, e1, _, _⟩ := Range_spec l s0 (-3000000) 3000000 h0 (by omega) (by omega) (by omega) (by omega) hl
  obtain ⟨a, e2, _⟩ := Pick_spec l (s0 + 1) [0, 216000, -216000, 324000, 648000, 1296000, 1000000, r, 1296000001] (by omega) (by omega) hl (by simp) (by simp)
  have hj := j2_true s L hL p a0 a1 b0 b1 hp
  have hC : Ev (fun k => place_Cosine.f k a) (if -1296000000 ≤ a ∧ a ≤ 1296000000 then (cosV a, 0) else (0, 1)) := by
    refine ⟨2, fun k hk => ?_⟩
    obtain ⟨k, rfl⟩ : ∃ m, k = m + 2 := ⟨k - 2, by omega⟩
    exact Cosine_eq a k
  have hO : Ev (fun k => pileref1_CosineOf.f k a) (cosV a) := by
    refine ⟨2, fun k hk => ?_⟩
    obtain ⟨k, rfl⟩ : ∃ m, k = m + 2 := ⟨k - 2, by omega⟩
    exact CosineOf_eq a k
  refine Ev.step (f := ?f10) (fun k => ?h10) ?k10
  case h10 =>
    simp only [pilelaw1_PlacesApart.j1, e1, e2, Option.bind_some, SpanFault_eq]
    exact rfl
  refine Ev.bind hC ?_
  by_cases c : -1296000000 ≤ a ∧ a ≤ 1296000000
  · simp only [if_pos c, if_true]
    refine Ev.bind hO ?_
    simp only [if_true]
    exact hj
  · simp only [if_neg c, if_true, show ¬ ((1 : Int) = 0) by decide, if_false, bne_self_eq_false]
    exact hj
theorem PlacesApart : pilelaw1_PlacesApart.Pure := by
  intro l hl1 hl2 hl3
  have hl : l.length ≤ 140737488351232 := by omega
  obtain ⟨a0, a1, s1, e1, p1, p2, _⟩ := SiteOf_spec l 0 (by omega) (by omega) hl
  obtain ⟨b0, b1, s2, e2, q1, q2, _⟩ := SiteOf_spec l s1 (by omega) (by omega) hl
  obtain ⟨p, e3, m3⟩ := Pick_spec l s2 [1, 2, 7, 0, 1001] (by omega) (by omega) hl (by simp) (by simp)
  obtain ⟨t, s3, e4, _, q3, q4⟩ := LocatorText_spec l (s2 + 1) (by omega) (by omega) hl
  obtain ⟨L, s4, e5, hL, q5, q6⟩ := LocatorList_spec l s3 5 (by omega) (by omega) (by omega) hl
  obtain ⟨f, e6⟩ := Flip_spec l s4 6 (by omega) (by omega) (by omega) hl
  simp only [List.mem_cons, List.not_mem_nil, or_false] at m3
  have hp : -1000000 ≤ p ∧ p ≤ 1000000 := by omega
  refine Ev.rounds ?_
  simp only [pilelaw1_PlacesApart.f, e1, e2, e3, Option.bind_some]
  refine Ev.bind e4 (Ev.bind e5 ?_)
  simp only [e6, Option.bind_some]
  cases f with
  | true =>
    refine Ev.step (f := ?f11) (fun k => ?h11) ?k11
    case h11 =>
      simp only [pilelaw1_PlacesApart.j0, if_true]
      exact rfl
    exact j1_true l hl (s4 + 1) (by omega) (by omega) t L (by omega) p a0 a1 a0 a1 hp
  | false =>
    refine Ev.step (f := ?f12) (fun k => ?h12) ?k12
    case h12 =>
      simp only [pilelaw1_PlacesApart.j0, Bool.false_eq_true, if_false]
      exact rfl
    exact j1_true l hl (s4 + 1) (by omega) (by omega) t L (by omega) p a0 a1 b0 b1 hp
end Go.Proofs.Ytonnpocamipbiaa.Pure
