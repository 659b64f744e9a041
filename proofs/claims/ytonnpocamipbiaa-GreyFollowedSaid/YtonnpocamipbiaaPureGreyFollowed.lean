/- For all sites, windows, widths and steps that the stream draws from a list of numbers, place.GreyTimes, place.BothGrey and place.Light answer as the document's reference does. Conditions: none beyond the form's own (the list of numbers is any Go slice of int). -/
import Derived.Test.YtonnpocamipbiaaLGreyFollowedlight
import Derived.Test.YtonnpocamipbiaaPGreyFollowedx5
namespace Go.Proofs.Ytonnpocamipbiaa.Pure
open Go.RowKit Go.Proofs.Ytonnpocamipbiaa.PGreyFollowed Go.Proofs.YtonnpocamipbiaaW.PrintWords Go.Proofs.YtonnpocamipbiaaW.PrintLast
theorem Or4 (a b c d : Int) (k : Nat) : api_Errno.f (k + 5) [a, b, c, d] = some (if a = 0 then (if b = 0 then (if c = 0 then d else c) else b) else a) := by
  rw [Or_eq _ _ (by simp) (by simp <;> omega)]
  simp only [firstErr, Option.some.injEq]
  repeat' split
  all_goals simp_all
theorem j1_bad (ev n e n2 e2 w fr en : Int) (h : askV fr en ev ≠ 0) (k : Nat) : pilelaw1_GreyFollowed.j1 (k + 20) ev n e n2 e2 w fr en = some true := by
  have hw : ∀ q : Nat, api_Window.f (q + 1) [] [] = some true := fun q => Window_same [] _ (by simp) (by simp)
  simp only [pilelaw1_GreyFollowed.j1, place_GreyTimes.f, place_BothGrey.f, place_Light.f, place_checkBoth.f, CheckSite_eq, askedFault_eq, AskedFault_eq, SiteFault_eq, SpanFault_eq, Or2, Or3, Or4, Option.bind_some]
  generalize askV fr en ev = A at *
  by_cases h1 : (-324000 ≤ n ∧ n ≤ 324000) ∧ -648000 ≤ e ∧ e ≤ 647999 <;> by_cases h2 : (-324000 ≤ n2 ∧ n2 ≤ 324000) ∧ -648000 ≤ e2 ∧ e2 ≤ 647999 <;> simp [h1, h2, h, pilelaw1_GreyFollowed.j2, pilelaw1_GreyFollowed.j3, pilelaw1_GreyFollowed.j4, hw, placed_eq]
theorem askV_ok {fr en ev : Int} (h : askV fr en ev = 0) : (0 ≤ fr ∧ fr ≤ en ∧ en ≤ 345686400000) ∧ 1000 ≤ ev ∧ ev ≤ 86400000 := by
  unfold askV at h
  split at h
  · assumption
  · omega
theorem j1_good (ev n e n2 e2 w fr en : Int) (h : askV fr en ev = 0) (k : Nat) (hk : 900000000000 ≤ k) : pilelaw1_GreyFollowed.j1 (k + 20) ev n e n2 e2 w fr en = some true := by
  obtain ⟨⟨f0, f1, f2⟩, v0, v1⟩ := askV_ok h
  obtain ⟨m, hm, hc⟩ := cnt_ex en ev (by omega) (en - fr).toNat fr (by omega)
  have hw : ∀ q : Nat, api_Window.f (q + 1) [] [] = some true := fun q => Window_same [] _ (by simp) (by simp)
  have l1 := runW_len (fun t => greyV n e t w) en ev m [] false fr
  have l2 := runW_len (fun t => greyV n e t w && greyV n2 e2 t w) en ev m [] false fr
  simp only [List.length_nil, Nat.zero_add] at l1 l2
  have a1 : ∀ q : Nat, place_times_of_place_GreyTimes_1.f (k + q) fr en ev n e w = some (runW (fun t => greyV n e t w) en ev m [] false fr) := fun q => ptOne_run n e w fr en ev (by omega) v1 f2 m [] false fr _ f0 hc (by simp; omega) (by simp) (by omega)
  have a2 : ∀ q : Nat, place_times_of_place_BothGrey_1.f (k + q) fr en ev n e w n2 e2 = some (runW (fun t => greyV n e t w && greyV n2 e2 t w) en ev m [] false fr) := fun q => ptTwo_run n e w n2 e2 fr en ev (by omega) v1 f2 m [] false fr _ f0 hc (by simp; omega) (by simp) (by omega)
  have a3 : ∀ q : Nat, pileref1_AskedWindows_of_pilelaw1_GreyFollowed_1.f (k + q) fr en ev n e w = some (runW (fun t => greyV n e t w) en ev m [] false fr) := fun q => rfOne_run n e w fr en ev (by omega) v1 f2 m [] false fr _ f0 hc (by simp; omega) (by simp) (by omega)
  have a4 : ∀ q : Nat, pileref1_AskedWindows_of_pilelaw1_GreyFollowed_2.f (k + q) fr en ev n e w n2 e2 = some (runW (fun t => greyV n e t w && greyV n2 e2 t w) en ev m [] false fr) := fun q => rfTwo_run n e w n2 e2 fr en ev (by omega) v1 f2 m [] false fr _ f0 hc (by simp; omega) (by simp) (by omega)
  have a5 : ∀ q : Nat, place_Light.l0 (k + q) ev 0 fr n e fr en = some (mn (lightV (fun t => decide (sunV n e t > 0)) ev m 0 fr) (wrap64 (en - fr)), 0) := fun q => Light_run n e fr en ev (by omega) v1 f0 f2 m 0 fr _ (by omega) hc (by omega) (by omega) (by omega)
  have a6 : ∀ q : Nat, pileref1_LightOf.f (k + q) n e fr en ev = some (mn (lightV (fun t => decide (sunV n e t > 0)) ev m 0 fr) (wrap64 (en - fr))) := by
    intro q
    have := LightOf_run n e fr en ev (by omega) v1 f0 f2 m 0 fr (k + q) (by omega) (by omega) hc (by omega) (by omega) (by omega) (by omega) (by omega)
    rw [Int.zero_mul] at this
    exact this
  have w1 : ∀ q : Nat, api_Window.f (k + q) (runW (fun t => greyV n e t w) en ev m [] false fr) (runW (fun t => greyV n e t w) en ev m [] false fr) = some true := fun q => Window_same _ _ (by omega) (by omega)
  have w2 : ∀ q : Nat, api_Window.f (k + q) (runW (fun t => greyV n e t w && greyV n2 e2 t w) en ev m [] false fr) (runW (fun t => greyV n e t w && greyV n2 e2 t w) en ev m [] false fr) = some true := fun q => Window_same _ _ (by omega) (by omega)
  generalize runW (fun t => greyV n e t w) en ev m [] false fr = X at *
  generalize runW (fun t => greyV n e t w && greyV n2 e2 t w) en ev m [] false fr = Y at *
  generalize mn (lightV (fun t => decide (sunV n e t > 0)) ev m 0 fr) (wrap64 (en - fr)) = L at *
  have hw2 : ∀ q : Nat, api_Window.f (k + (q + 1)) [] [] = some true := fun q => hw (k + q)
  have pl : ∀ q : Nat, pilelaw1_placed.f (k + (q + 2)) = some true := fun q => placed_eq (k + q)
  simp only [pilelaw1_GreyFollowed.j1, place_GreyTimes.f, place_BothGrey.f, place_Light.f, place_checkBoth.f, CheckSite_eq, askedFault_eq, AskedFault_eq, SiteFault_eq, SpanFault_eq, Outside_eq, Or2, Or3, Or4, Option.bind_some, h]
  by_cases h1 : (-324000 ≤ n ∧ n ≤ 324000) ∧ -648000 ≤ e ∧ e ≤ 647999 <;> by_cases h2 : (-324000 ≤ n2 ∧ n2 ≤ 324000) ∧ -648000 ≤ e2 ∧ e2 ≤ 647999 <;> by_cases h3 : 0 ≤ w ∧ w ≤ 200000
  all_goals first
    | have h4 : ¬ (w < 0 ∨ 200000 < w) := by omega
    | have h4 : w < 0 ∨ 200000 < w := by omega
  all_goals simp [h1, h2, h3, h4, a1, a2, a3, a4, a5, a6, w1, w2, hw2, pl, pilelaw1_GreyFollowed.j2, pilelaw1_GreyFollowed.j3, pilelaw1_GreyFollowed.j4]
theorem j1_true (ev n e n2 e2 w fr en : Int) (k : Nat) (hk : 900000000000 ≤ k) : pilelaw1_GreyFollowed.j1 (k + 20) ev n e n2 e2 w fr en = some true := by
  by_cases h : askV fr en ev = 0
  · exact j1_good ev n e n2 e2 w fr en h k hk
  · exact j1_bad ev n e n2 e2 w fr en h k
theorem GreyFollowed : pilelaw1_GreyFollowed.Pure := by
  intro l hl1 hl2 hl3
  have hl : l.length ≤ 140737488351232 := by omega
  refine ⟨900000000000 + 21, ?_⟩
  generalize hK : 900000000000 = K
  have hk : 900000000000 ≤ K := by omega
  clear hK
  unfold pilelaw1_GreyFollowed.f
  obtain ⟨n, e, s1, e1, a1, b1, _⟩ := SiteOf_spec l 0 (by omega) (by omega) hl
  rw [e1]
  simp only [Option.bind_some]
  obtain ⟨n2, e2, s2, e3, a2, b2, _⟩ := SiteOf_spec l s1 (by omega) (by omega) hl
  rw [e3]
  simp only [Option.bind_some]
  obtain ⟨w, e4, _⟩ := Pick_spec l s2 [20000, 100000, 200000, -1] (by omega) (by omega) hl (by simp) (by simp)
  rw [e4]
  simp only [Option.bind_some]
  obtain ⟨ev, e5, _⟩ := Pick_spec l (s2 + 1) [600000, 1800000, 3600000, 7, 86400000] (by omega) (by omega) hl (by simp) (by simp)
  rw [e5]
  simp only [Option.bind_some]
  obtain ⟨fr, e6, _⟩ := SkyTime_spec l (s2 + 1 + 1) (by omega) (by omega) hl
  rw [e6]
  simp only [Option.bind_some, pilelaw1_GreyFollowed.j0]
  obtain ⟨d, e7, _⟩ := Pick_spec l (s2 + 1 + 1 + 3) [0, 1, 86400000, 172800000, -1] (by omega) (by omega) hl (by simp) (by simp)
  rw [e7]
  simp only [Option.bind_some]
  obtain ⟨f, e8⟩ := Flip_spec l (s2 + 1 + 1 + 3 + 1) 30 (by omega) (by omega) (by omega) hl
  rw [e8]
  simp only [Option.bind_some]
  cases f with
  | true => rw [if_pos rfl]; exact j1_true _ _ _ _ _ _ _ _ K hk
  | false => rw [if_neg (by simp)]; exact j1_true _ _ _ _ _ _ _ _ K hk
end Go.Proofs.Ytonnpocamipbiaa.Pure
