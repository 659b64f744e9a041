/- For all sites, moments and widths that the stream draws from a list of numbers, place.Tilt, place.Sun and place.Grey answer as the document's reference does. Conditions: none beyond the form's own (the list of numbers is any Go slice of int). -/
import Derived.Test.YtonnpocamipbiaaLSunFollowedcos
namespace Go.Proofs.Ytonnpocamipbiaa.Pure
open Go.RowKit Go.Proofs.Ytonnpocamipbiaa.PSunFollowed Go.Proofs.YtonnpocamipbiaaW.PrintWords Go.Proofs.YtonnpocamipbiaaW.PrintLast
theorem j0_true (a w n e : Int) (k : Nat) : pilelaw1_SunFollowed.j0 (k + 10) a w n e = some true := by
  have hG := Grey_eq n e a w (k + 7)
  have hA := GreyAt_eq n e a w (k + 6)
  simp only [pilelaw1_SunFollowed.j0, pilelaw1_SunFollowed.j1, Tilt_eq, Sun_eq, MomentFault_eq, SiteFault_eq, SpanFault_eq, Or2, TiltOf_eq, SunOf_eq, placed_eq, Option.bind_some, hG, hA]
  by_cases h1 : (-324000 ≤ n ∧ n ≤ 324000) ∧ -648000 ≤ e ∧ e ≤ 647999 <;> by_cases h2 : 0 ≤ a ∧ a ≤ 345686399999 <;> by_cases h3 : 0 ≤ w ∧ w ≤ 200000 <;> simp [h1, h2, h3]
theorem SunFollowed : pilelaw1_SunFollowed.Pure := by
  intro l hl1 hl2 hl3
  have hl : l.length ≤ 140737488351232 := by omega
  refine ⟨10, ?_⟩
  unfold pilelaw1_SunFollowed.f
  obtain ⟨n, e, s1, e1, a1, b1, _⟩ := SiteOf_spec l 0 (by omega) (by omega) hl
  rw [e1]
  simp only [Option.bind_some]
  obtain ⟨t, e2, _⟩ := SkyTime_spec l s1 (by omega) (by omega) hl
  rw [e2]
  simp only [Option.bind_some]
  obtain ⟨r, e3, _⟩ := Pick_spec l (s1 + 3) [0, 10000, 100000, 200000, -1, 200001] (by omega) (by omega) hl (by simp) (by simp)
  rw [e3]
  simp only [Option.bind_some]
  obtain ⟨f, e4⟩ := Flip_spec l (s1 + 3 + 1) 20 (by omega) (by omega) (by omega) hl
  rw [e4]
  simp only [Option.bind_some]
  cases f with
  | true =>
    obtain ⟨q, e5, _⟩ := Pick_spec l (s1 + 3 + 1 + 1) [-1, 345686400000] (by omega) (by omega) hl (by simp) (by simp)
    rw [if_pos rfl, e5]
    exact j0_true _ _ _ _ 0
  | false =>
    rw [if_neg (by simp)]
    exact j0_true _ _ _ _ 0
end Go.Proofs.Ytonnpocamipbiaa.Pure
