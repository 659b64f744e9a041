-- A program of this session wrote this text: a turned copy of the printer; functions proved by hand stand in it.
import Derived.Test.YtacgcamgfkjbiaaPHoursCountedx0
import Derived.Test.YtacgcamgfkjbiaaPHoursCountedx1
import Derived.Test.YtacgcamgfkjbiaaPHoursCountedx2
import Derived.Test.YtacgcamgfkjbiaaPHoursCountedx3
import Derived.Test.YtacgcamgfkjbiaaPHoursCountedx4
import Derived.Test.YtacgcamgfkjbiaaPHoursCountedx5
import Derived.Test.YtacgcamgfkjbiaaPHoursCountedx6
import Derived.Test.YtacgcamgfkjbiaaPHoursCountedx7
namespace Go.Proofs.Ytacgcamgfkjbiaa.PHoursCounted
open Go.RowKit Go.Proofs.YtacgcamgfkjbiaaW.PrintWords Go.Proofs.YtacgcamgfkjbiaaW.PrintLast Go.Proofs.YtacgcamgfkjbiaaW.PrintMore Go.Proofs.YtacgcamgfkjbiaaW.PrintOwn
attribute [local go_sem] max2_int min2_int max_two min_two max_three min_three max_four min_four   -- for this text's walks alone
set_option linter.unusedVariables false
set_option linter.unusedSimpArgs false

attribute [local go_sem high] eqA27 eqA38
/-! ### pilelaw1_HoursCounted: function 3 -/
mutual
def pilelaw1_HoursCounted.j0 : Nat → List Int → Int → Int → Int → Int → Int → Int → Int → Option (Bool)
  | 0, _, _, _, _, _, _, _, _ => none
  | k + 1, x4, x7, x8, x9, x307000, x307001, x328000, x328001 => (rate_CheckTimes.f k x4 x307000 x307001).bind fun t329 => (if t329 = x9 then ((rate_Hours.f k x4 x307000 x307001).bind fun bt330 => ((rate_In.f k x4 x307000 x307001 x328000 x328001).bind fun bt334 => ((rate_Rate.f k x4 x307000 x307001 x7 x8).bind fun bt336 => ((rate_Best.f k x4 x307000 x307001 x8).bind fun bt341 => ((rate_Gap.f k x4 x307000 x307001).bind fun bt344 => (if x9 = 0 then ((pileref1_HoursFault.f x307000 x307001).bind fun t348 => ((pileref1_WindowFault.f k x328000 x328001).bind fun t349 => ((pileref1_MomentFault.f x7).bind fun t350 => ((pileref1_LongFault.f x8).bind fun t351 => ((api_Errno.f k (([t350, t351] : List Int))).bind fun t355 => ((pileref1_LongFault.f x8).bind fun t356 => (pilelaw1_HoursCounted.j1 k x4 x7 x8 x9 bt330.1 bt330.2 bt334.1 bt334.2 bt336.2.2.1 bt336.2.2.2 bt341.1 bt341.2.1 bt341.2.2 bt344.2.2 t348 t349 t355 t356 x307000 x307001 x328000 x328001 bt336.1 bt336.2.1 bt344.1 bt344.2.1))))))) else (pilelaw1_HoursCounted.j1 k x4 x7 x8 x9 bt330.1 bt330.2 bt334.1 bt334.2 bt336.2.2.1 bt336.2.2.2 bt341.1 bt341.2.1 bt341.2.2 bt344.2.2 x9 x9 x9 x9 x307000 x307001 x328000 x328001 bt336.1 bt336.2.1 bt344.1 bt344.2.1))))))) else (some false))
def pilelaw1_HoursCounted.j1 : Nat → List Int → Int → Int → Int → List Int → Int → Int → Int → Bool → Int → Int → Int → Int → Int → Int → Int → Int → Int → Int → Int → Int → Int → Int → Int → Int → Int → Option (Bool)
  | 0, _, _, _, _, _, _, _, _, _, _, _, _, _, _, _, _, _, _, _, _, _, _, _, _, _, _ => none
  | k + 1, x4, x7, x8, x9, x10, x11, x12, x13, x15, x16, x17, x18, x19, x21, x22, x23, x24, x25, x307000, x307001, x328000, x328001, x341000, x341001, x348000, x348001 => if x22 = 0 then ((pileref1_HoursOf.f k x4 x307000 x307001).bind fun t359 => (pilelaw1_HoursCounted.j2 k x4 x7 x8 x9 x10 x11 x12 x13 x15 x16 x17 x18 x19 x21 x22 x23 x24 x25 t359 0 0 0 false x307000 x307001 x328000 x328001 x341000 x341001 x348000 x348001 0 0 0 0)) else (pilelaw1_HoursCounted.j2 k x4 x7 x8 x9 x10 x11 x12 x13 x15 x16 x17 x18 x19 x21 x22 x23 x24 x25 ([] : List Int) 0 0 0 false x307000 x307001 x328000 x328001 x341000 x341001 x348000 x348001 0 0 0 0)
def pilelaw1_HoursCounted.j2 : Nat → List Int → Int → Int → Int → List Int → Int → Int → Int → Bool → Int → Int → Int → Int → Int → Int → Int → Int → Int → List Int → Int → Int → Int → Bool → Int → Int → Int → Int → Int → Int → Int → Int → Int → Int → Int → Int → Option (Bool)
  | 0, _, _, _, _, _, _, _, _, _, _, _, _, _, _, _, _, _, _, _, _, _, _, _, _, _, _, _, _, _, _, _, _, _, _, _ => none
  | k + 1, x4, x7, x8, x9, x10, x11, x12, x13, x15, x16, x17, x18, x19, x21, x22, x23, x24, x25, x26, x27, x28, x29, x30, x307000, x307001, x328000, x328001, x341000, x341001, x348000, x348001, x358000, x358001, x359000, x359001 => if x23 = 0 then ((pileref1_InOf.f k x4 x328000 x328001).bind fun t362 => (pilelaw1_HoursCounted.j3 k x4 x7 x8 x9 x10 x11 x12 x13 x15 x16 x17 x18 x19 x21 x22 x23 x24 x25 x26 t362 x28 x29 x30 x307000 x307001 x341000 x341001 x348000 x348001 x358000 x358001 x359000 x359001)) else (pilelaw1_HoursCounted.j3 k x4 x7 x8 x9 x10 x11 x12 x13 x15 x16 x17 x18 x19 x21 x22 x23 x24 x25 x26 x27 x28 x29 x30 x307000 x307001 x341000 x341001 x348000 x348001 x358000 x358001 x359000 x359001)
def pilelaw1_HoursCounted.j3 : Nat → List Int → Int → Int → Int → List Int → Int → Int → Int → Bool → Int → Int → Int → Int → Int → Int → Int → Int → Int → List Int → Int → Int → Int → Bool → Int → Int → Int → Int → Int → Int → Int → Int → Int → Int → Option (Bool)
  | 0, _, _, _, _, _, _, _, _, _, _, _, _, _, _, _, _, _, _, _, _, _, _, _, _, _, _, _, _, _, _, _, _, _ => none
  | k + 1, x4, x7, x8, x9, x10, x11, x12, x13, x15, x16, x17, x18, x19, x21, x22, x23, x24, x25, x26, x27, x28, x29, x30, x307000, x307001, x341000, x341001, x348000, x348001, x358000, x358001, x359000, x359001 => if x24 = 0 then ((pileref1_RateOf.f k x4 x307000 x307001 x7 x8).bind fun bt363 => (pilelaw1_HoursCounted.j4 k x4 x8 x9 x10 x11 x12 x13 x15 x16 x17 x18 x19 x21 x22 x23 x24 x25 x26 x27 x28 x29 bt363.2.2 x307000 x307001 x341000 x341001 x348000 x348001 bt363.1 bt363.2.1 x359000 x359001)) else (pilelaw1_HoursCounted.j4 k x4 x8 x9 x10 x11 x12 x13 x15 x16 x17 x18 x19 x21 x22 x23 x24 x25 x26 x27 x28 x29 x30 x307000 x307001 x341000 x341001 x348000 x348001 x358000 x358001 x359000 x359001)
def pilelaw1_HoursCounted.j4 : Nat → List Int → Int → Int → List Int → Int → Int → Int → Bool → Int → Int → Int → Int → Int → Int → Int → Int → Int → List Int → Int → Int → Int → Bool → Int → Int → Int → Int → Int → Int → Int → Int → Int → Int → Option (Bool)
  | 0, _, _, _, _, _, _, _, _, _, _, _, _, _, _, _, _, _, _, _, _, _, _, _, _, _, _, _, _, _, _, _, _ => none
  | k + 1, x4, x8, x9, x10, x11, x12, x13, x15, x16, x17, x18, x19, x21, x22, x23, x24, x25, x26, x27, x28, x29, x30, x307000, x307001, x341000, x341001, x348000, x348001, x358000, x358001, x359000, x359001 => if x25 = 0 then ((pileref1_BestOf.f k x4 x307000 x307001 x8).bind fun bt366 => (pilelaw1_HoursCounted.j5 k x4 x9 x10 x11 x12 x13 x15 x16 x17 x18 x19 x21 x22 x23 x24 x25 x26 x27 bt366.1 bt366.2 x30 x307000 x307001 x341000 x341001 x348000 x348001 x358000 x358001 x359000 x359001)) else (pilelaw1_HoursCounted.j5 k x4 x9 x10 x11 x12 x13 x15 x16 x17 x18 x19 x21 x22 x23 x24 x25 x26 x27 x28 x29 x30 x307000 x307001 x341000 x341001 x348000 x348001 x358000 x358001 x359000 x359001)
def pilelaw1_HoursCounted.j5 : Nat → List Int → Int → List Int → Int → Int → Int → Bool → Int → Int → Int → Int → Int → Int → Int → Int → Int → List Int → Int → Int → Int → Bool → Int → Int → Int → Int → Int → Int → Int → Int → Int → Int → Option (Bool)
  | 0, _, _, _, _, _, _, _, _, _, _, _, _, _, _, _, _, _, _, _, _, _, _, _, _, _, _, _, _, _, _, _ => none
  | k + 1, x4, x9, x10, x11, x12, x13, x15, x16, x17, x18, x19, x21, x22, x23, x24, x25, x26, x27, x28, x29, x30, x307000, x307001, x341000, x341001, x348000, x348001, x358000, x358001, x359000, x359001 => if x9 = 0 then ((pileref1_GapOf.f k x4 x307000 x307001).bind fun bt368 => (pilelaw1_HoursCounted.j6 k x9 x10 x11 x12 x13 x15 x16 x17 x18 x19 x21 x22 x23 x24 x25 x26 x27 x28 x29 x30 x341000 x341001 x348000 x348001 x358000 x358001 bt368.1 bt368.2)) else (pilelaw1_HoursCounted.j6 k x9 x10 x11 x12 x13 x15 x16 x17 x18 x19 x21 x22 x23 x24 x25 x26 x27 x28 x29 x30 x341000 x341001 x348000 x348001 x358000 x358001 x359000 x359001)
def pilelaw1_HoursCounted.j6 : Nat → Int → List Int → Int → Int → Int → Bool → Int → Int → Int → Int → Int → Int → Int → Int → Int → List Int → Int → Int → Int → Bool → Int → Int → Int → Int → Int → Int → Int → Int → Option (Bool)
  | 0, _, _, _, _, _, _, _, _, _, _, _, _, _, _, _, _, _, _, _, _, _, _, _, _, _, _, _, _ => none
  | k + 1, x9, x10, x11, x12, x13, x15, x16, x17, x18, x19, x21, x22, x23, x24, x25, x26, x27, x28, x29, x30, x341000, x341001, x348000, x348001, x358000, x358001, x359000, x359001 => if x11 = x22 then ((slices_Equal_int_int.f k x10 x26).bind fun t370 => (if t370 = true then (if x13 = x23 then (if x12 = x27 then (if x16 = x24 then (if (x341000 == x358000 && (x341001 == x358001)) = true then (if (x15 == x30) = true then (if x19 = x25 then (if x17 = x28 then (if x18 = x29 then (if x21 = x9 then (if (x348000 == x359000 && (x348001 == x359001)) = true then ((pilelaw1_rated.f k).bind fun t371 => (some t371)) else (some false)) else (some false)) else (some false)) else (some false)) else (some false)) else (some false)) else (some false)) else (some false)) else (some false)) else (some false)) else (some false))) else (some false)
end
def pilelaw1_HoursCounted.f (k : Nat) (l0 : List Int) : Option (Bool) := (pilemake_Stream_TimesOf.f k l0 0).bind fun bt300 => ((pilemake_Stream_Pick.f l0 bt300.2.2.2 (([0, 1000, 60000, (-1)] : List Int))).bind fun bt310 => ((pilemake_Stream_Pick.f l0 bt310.2 (([1000, 500000, 8000000, 345686400001] : List Int))).bind fun bt315 => ((pilemake_Stream_Pick.f l0 bt315.2 (([0, 61000, 3600000, 10000000, (-1)] : List Int))).bind fun bt320 => ((pilemake_Stream_Pick.f l0 bt320.2 (([60000, 900000, 3600000, 0, 86400001] : List Int))).bind fun bt325 => ((pileref1_TimesFault.f k bt300.1 bt300.2.1 bt300.2.2.1).bind fun t328 => (pilelaw1_HoursCounted.j0 k bt300.1 bt320.1 bt325.1 t328 bt300.2.1 bt300.2.2.1 bt310.1 bt315.1))))))
theorem pilelaw1_HoursCounted.mono_l : ∀ k, (∀ y0 y1 y2 y3 y4 y5 y6 y7, LeO (pilelaw1_HoursCounted.j0 k y0 y1 y2 y3 y4 y5 y6 y7) (pilelaw1_HoursCounted.j0 (k + 1) y0 y1 y2 y3 y4 y5 y6 y7)) ∧ (∀ y0 y1 y2 y3 y4 y5 y6 y7 y8 y9 y10 y11 y12 y13 y14 y15 y16 y17 y18 y19 y20 y21 y22 y23 y24 y25, LeO (pilelaw1_HoursCounted.j1 k y0 y1 y2 y3 y4 y5 y6 y7 y8 y9 y10 y11 y12 y13 y14 y15 y16 y17 y18 y19 y20 y21 y22 y23 y24 y25) (pilelaw1_HoursCounted.j1 (k + 1) y0 y1 y2 y3 y4 y5 y6 y7 y8 y9 y10 y11 y12 y13 y14 y15 y16 y17 y18 y19 y20 y21 y22 y23 y24 y25)) ∧ (∀ y0 y1 y2 y3 y4 y5 y6 y7 y8 y9 y10 y11 y12 y13 y14 y15 y16 y17 y18 y19 y20 y21 y22 y23 y24 y25 y26 y27 y28 y29 y30 y31 y32 y33 y34, LeO (pilelaw1_HoursCounted.j2 k y0 y1 y2 y3 y4 y5 y6 y7 y8 y9 y10 y11 y12 y13 y14 y15 y16 y17 y18 y19 y20 y21 y22 y23 y24 y25 y26 y27 y28 y29 y30 y31 y32 y33 y34) (pilelaw1_HoursCounted.j2 (k + 1) y0 y1 y2 y3 y4 y5 y6 y7 y8 y9 y10 y11 y12 y13 y14 y15 y16 y17 y18 y19 y20 y21 y22 y23 y24 y25 y26 y27 y28 y29 y30 y31 y32 y33 y34)) ∧ (∀ y0 y1 y2 y3 y4 y5 y6 y7 y8 y9 y10 y11 y12 y13 y14 y15 y16 y17 y18 y19 y20 y21 y22 y23 y24 y25 y26 y27 y28 y29 y30 y31 y32, LeO (pilelaw1_HoursCounted.j3 k y0 y1 y2 y3 y4 y5 y6 y7 y8 y9 y10 y11 y12 y13 y14 y15 y16 y17 y18 y19 y20 y21 y22 y23 y24 y25 y26 y27 y28 y29 y30 y31 y32) (pilelaw1_HoursCounted.j3 (k + 1) y0 y1 y2 y3 y4 y5 y6 y7 y8 y9 y10 y11 y12 y13 y14 y15 y16 y17 y18 y19 y20 y21 y22 y23 y24 y25 y26 y27 y28 y29 y30 y31 y32)) ∧ (∀ y0 y1 y2 y3 y4 y5 y6 y7 y8 y9 y10 y11 y12 y13 y14 y15 y16 y17 y18 y19 y20 y21 y22 y23 y24 y25 y26 y27 y28 y29 y30 y31, LeO (pilelaw1_HoursCounted.j4 k y0 y1 y2 y3 y4 y5 y6 y7 y8 y9 y10 y11 y12 y13 y14 y15 y16 y17 y18 y19 y20 y21 y22 y23 y24 y25 y26 y27 y28 y29 y30 y31) (pilelaw1_HoursCounted.j4 (k + 1) y0 y1 y2 y3 y4 y5 y6 y7 y8 y9 y10 y11 y12 y13 y14 y15 y16 y17 y18 y19 y20 y21 y22 y23 y24 y25 y26 y27 y28 y29 y30 y31)) ∧ (∀ y0 y1 y2 y3 y4 y5 y6 y7 y8 y9 y10 y11 y12 y13 y14 y15 y16 y17 y18 y19 y20 y21 y22 y23 y24 y25 y26 y27 y28 y29 y30, LeO (pilelaw1_HoursCounted.j5 k y0 y1 y2 y3 y4 y5 y6 y7 y8 y9 y10 y11 y12 y13 y14 y15 y16 y17 y18 y19 y20 y21 y22 y23 y24 y25 y26 y27 y28 y29 y30) (pilelaw1_HoursCounted.j5 (k + 1) y0 y1 y2 y3 y4 y5 y6 y7 y8 y9 y10 y11 y12 y13 y14 y15 y16 y17 y18 y19 y20 y21 y22 y23 y24 y25 y26 y27 y28 y29 y30)) ∧ (∀ y0 y1 y2 y3 y4 y5 y6 y7 y8 y9 y10 y11 y12 y13 y14 y15 y16 y17 y18 y19 y20 y21 y22 y23 y24 y25 y26 y27, LeO (pilelaw1_HoursCounted.j6 k y0 y1 y2 y3 y4 y5 y6 y7 y8 y9 y10 y11 y12 y13 y14 y15 y16 y17 y18 y19 y20 y21 y22 y23 y24 y25 y26 y27) (pilelaw1_HoursCounted.j6 (k + 1) y0 y1 y2 y3 y4 y5 y6 y7 y8 y9 y10 y11 y12 y13 y14 y15 y16 y17 y18 y19 y20 y21 y22 y23 y24 y25 y26 y27))
  | 0 => ⟨fun _ _ _ _ _ _ _ _ r h => by simp [pilelaw1_HoursCounted.j0] at h, fun _ _ _ _ _ _ _ _ _ _ _ _ _ _ _ _ _ _ _ _ _ _ _ _ _ _ r h => by simp [pilelaw1_HoursCounted.j1] at h, fun _ _ _ _ _ _ _ _ _ _ _ _ _ _ _ _ _ _ _ _ _ _ _ _ _ _ _ _ _ _ _ _ _ _ _ r h => by simp [pilelaw1_HoursCounted.j2] at h, fun _ _ _ _ _ _ _ _ _ _ _ _ _ _ _ _ _ _ _ _ _ _ _ _ _ _ _ _ _ _ _ _ _ r h => by simp [pilelaw1_HoursCounted.j3] at h, fun _ _ _ _ _ _ _ _ _ _ _ _ _ _ _ _ _ _ _ _ _ _ _ _ _ _ _ _ _ _ _ _ r h => by simp [pilelaw1_HoursCounted.j4] at h, fun _ _ _ _ _ _ _ _ _ _ _ _ _ _ _ _ _ _ _ _ _ _ _ _ _ _ _ _ _ _ _ r h => by simp [pilelaw1_HoursCounted.j5] at h, fun _ _ _ _ _ _ _ _ _ _ _ _ _ _ _ _ _ _ _ _ _ _ _ _ _ _ _ _ r h => by simp [pilelaw1_HoursCounted.j6] at h⟩
  | k + 1 => by
    obtain ⟨ih0, ih1, ih2, ih3, ih4, ih5, ih6⟩ := pilelaw1_HoursCounted.mono_l k
    refine ⟨?_, ?_, ?_, ?_, ?_, ?_, ?_⟩
    · intro y0 y1 y2 y3 y4 y5 y6 y7
      unfold pilelaw1_HoursCounted.j0
      repeat' first | (with_reducible apply ih0) | (with_reducible apply ih1) | (with_reducible apply api_Errno.mono) | (with_reducible apply pileref1_WindowFault.mono) | (with_reducible apply rate_Best.mono) | (with_reducible apply rate_CheckTimes.mono) | (with_reducible apply rate_Gap.mono) | (with_reducible apply rate_Hours.mono) | (with_reducible apply rate_In.mono) | (with_reducible apply rate_Rate.mono) | (with_reducible exact LeO.refl _) | (with_reducible exact LeO.none _) | (with_reducible refine LeO.ite ?_ ?_) | (with_reducible refine LeO.bind ?_ (fun _ => ?_)) | apply ih0 | apply ih1 | apply api_Errno.mono | apply pileref1_WindowFault.mono | apply rate_Best.mono | apply rate_CheckTimes.mono | apply rate_Gap.mono | apply rate_Hours.mono | apply rate_In.mono | apply rate_Rate.mono | exact LeO.none _ | refine LeO.ite ?_ ?_ | refine LeO.bind ?_ (fun _ => ?_)
    · intro y0 y1 y2 y3 y4 y5 y6 y7 y8 y9 y10 y11 y12 y13 y14 y15 y16 y17 y18 y19 y20 y21 y22 y23 y24 y25
      unfold pilelaw1_HoursCounted.j1
      repeat' first | (with_reducible apply ih1) | (with_reducible apply ih2) | (with_reducible apply pileref1_HoursOf.mono) | (with_reducible exact LeO.refl _) | (with_reducible exact LeO.none _) | (with_reducible refine LeO.ite ?_ ?_) | (with_reducible refine LeO.bind ?_ (fun _ => ?_)) | apply ih1 | apply ih2 | apply pileref1_HoursOf.mono | exact LeO.none _ | refine LeO.ite ?_ ?_ | refine LeO.bind ?_ (fun _ => ?_)
    · intro y0 y1 y2 y3 y4 y5 y6 y7 y8 y9 y10 y11 y12 y13 y14 y15 y16 y17 y18 y19 y20 y21 y22 y23 y24 y25 y26 y27 y28 y29 y30 y31 y32 y33 y34
      unfold pilelaw1_HoursCounted.j2
      repeat' first | (with_reducible apply ih2) | (with_reducible apply ih3) | (with_reducible apply pileref1_InOf.mono) | (with_reducible exact LeO.refl _) | (with_reducible exact LeO.none _) | (with_reducible refine LeO.ite ?_ ?_) | (with_reducible refine LeO.bind ?_ (fun _ => ?_)) | apply ih2 | apply ih3 | apply pileref1_InOf.mono | exact LeO.none _ | refine LeO.ite ?_ ?_ | refine LeO.bind ?_ (fun _ => ?_)
    · intro y0 y1 y2 y3 y4 y5 y6 y7 y8 y9 y10 y11 y12 y13 y14 y15 y16 y17 y18 y19 y20 y21 y22 y23 y24 y25 y26 y27 y28 y29 y30 y31 y32
      unfold pilelaw1_HoursCounted.j3
      repeat' first | (with_reducible apply ih3) | (with_reducible apply ih4) | (with_reducible apply pileref1_RateOf.mono) | (with_reducible exact LeO.refl _) | (with_reducible exact LeO.none _) | (with_reducible refine LeO.ite ?_ ?_) | (with_reducible refine LeO.bind ?_ (fun _ => ?_)) | apply ih3 | apply ih4 | apply pileref1_RateOf.mono | exact LeO.none _ | refine LeO.ite ?_ ?_ | refine LeO.bind ?_ (fun _ => ?_)
    · intro y0 y1 y2 y3 y4 y5 y6 y7 y8 y9 y10 y11 y12 y13 y14 y15 y16 y17 y18 y19 y20 y21 y22 y23 y24 y25 y26 y27 y28 y29 y30 y31
      unfold pilelaw1_HoursCounted.j4
      repeat' first | (with_reducible apply ih4) | (with_reducible apply ih5) | (with_reducible apply pileref1_BestOf.mono) | (with_reducible exact LeO.refl _) | (with_reducible exact LeO.none _) | (with_reducible refine LeO.ite ?_ ?_) | (with_reducible refine LeO.bind ?_ (fun _ => ?_)) | apply ih4 | apply ih5 | apply pileref1_BestOf.mono | exact LeO.none _ | refine LeO.ite ?_ ?_ | refine LeO.bind ?_ (fun _ => ?_)
    · intro y0 y1 y2 y3 y4 y5 y6 y7 y8 y9 y10 y11 y12 y13 y14 y15 y16 y17 y18 y19 y20 y21 y22 y23 y24 y25 y26 y27 y28 y29 y30
      unfold pilelaw1_HoursCounted.j5
      repeat' first | (with_reducible apply ih5) | (with_reducible apply ih6) | (with_reducible apply pileref1_GapOf.mono) | (with_reducible exact LeO.refl _) | (with_reducible exact LeO.none _) | (with_reducible refine LeO.ite ?_ ?_) | (with_reducible refine LeO.bind ?_ (fun _ => ?_)) | apply ih5 | apply ih6 | apply pileref1_GapOf.mono | exact LeO.none _ | refine LeO.ite ?_ ?_ | refine LeO.bind ?_ (fun _ => ?_)
    · intro y0 y1 y2 y3 y4 y5 y6 y7 y8 y9 y10 y11 y12 y13 y14 y15 y16 y17 y18 y19 y20 y21 y22 y23 y24 y25 y26 y27
      unfold pilelaw1_HoursCounted.j6
      repeat' first | (with_reducible apply ih6) | (with_reducible apply pilelaw1_rated.mono) | (with_reducible apply slices_Equal_int_int.mono) | (with_reducible exact LeO.refl _) | (with_reducible exact LeO.none _) | (with_reducible refine LeO.ite ?_ ?_) | (with_reducible refine LeO.bind ?_ (fun _ => ?_)) | apply ih6 | apply pilelaw1_rated.mono | apply slices_Equal_int_int.mono | exact LeO.none _ | refine LeO.ite ?_ ?_ | refine LeO.bind ?_ (fun _ => ?_)
theorem pilelaw1_HoursCounted.mono : ∀ a0 k, LeO (pilelaw1_HoursCounted.f k a0) (pilelaw1_HoursCounted.f (k + 1) a0) := by
  intro a0 k
  obtain ⟨ih0, ih1, ih2, ih3, ih4, ih5, ih6⟩ := pilelaw1_HoursCounted.mono_l k
  unfold pilelaw1_HoursCounted.f
  repeat' first | (with_reducible apply ih0) | (with_reducible apply pilemake_Stream_TimesOf.mono) | (with_reducible apply pileref1_TimesFault.mono) | (with_reducible exact LeO.refl _) | (with_reducible exact LeO.none _) | (with_reducible refine LeO.ite ?_ ?_) | (with_reducible refine LeO.bind ?_ (fun _ => ?_)) | apply ih0 | apply pilemake_Stream_TimesOf.mono | apply pileref1_TimesFault.mono | exact LeO.none _ | refine LeO.ite ?_ ?_ | refine LeO.bind ?_ (fun _ => ?_)
def pilelaw1_HoursCounted.T14 : Bool × List (List Nat × List Nat) := (true, [([], []), ([0], [0]), ([], []), ([2, 1], [2]), ([], []), ([4, 3], [4]), ([], []), ([6, 5], [6]), ([5, 7], [5, 7]), ([8, 7], [8]), ([], []), ([10, 9], [10]), ([1, 11, 0, 1], [1]), ([3, 12, 0, 1, 2, 3, 12], [3]), ([9, 13, 0, 1, 2, 3, 4, 5, 6, 7, 8, 9, 12, 13], [9]), ([11, 14, 0, 1, 2, 3, 4, 5, 6, 7, 8, 9, 10, 11, 12, 13, 14], [11])])
def pilelaw1_HoursCounted.B14 : List Nat := [0, 1, 0, 7, 0, 31, 0, 127, 255, 511, 0, 2047, 4095, 8191, 16383, 32767]
theorem pilelaw1_HoursCounted.tab14 : rtab .any (opsOf Try.f3 14) = pilelaw1_HoursCounted.T14 := by kernel_rfl
theorem pilelaw1_HoursCounted.bits14 : waitsOk pilelaw1_HoursCounted.T14.2 pilelaw1_HoursCounted.B14 = true := by kernel_rfl
set_option maxHeartbeats 8000000 in
set_option maxRecDepth 100000 in
theorem pilelaw1_HoursCounted.calls (k : Nat) (A0 : Option Addr) (c0 : Nat) (l0 : List Int) (r : Bool) (w : World) (hr0 : Kd.C (Kd.int .i64) w A0 l0.length l0) (hc0 : l0.length ≤ c0) (h : pilelaw1_HoursCounted.f k l0 = some r) :
    Calls Try.prog 3 #[.slice A0 l0.length c0] w fun e w' => e = .returned (.bool r) ∧ Below w.heap.size w w' := by
  have hu25 := Try.underlying25; have hu27 := Try.underlying27; have hu38 := Try.underlying38; have HR0 := Aside0.mk hr0; have HC0 := Aside0.mk hc0; clear hr0 hc0; have HB := Aside0.mk (Below.refl w.heap.size w); (have H : ((pilemake_Stream_TimesOf.f k l0 0).bind fun bt300 => ((pilemake_Stream_Pick.f l0 bt300.2.2.2 (([0, 1000, 60000, (-1)] : List Int))).bind fun bt310 => ((pilemake_Stream_Pick.f l0 bt310.2 (([1000, 500000, 8000000, 345686400001] : List Int))).bind fun bt315 => ((pilemake_Stream_Pick.f l0 bt315.2 (([0, 61000, 3600000, 10000000, (-1)] : List Int))).bind fun bt320 => ((pilemake_Stream_Pick.f l0 bt320.2 (([60000, 900000, 3600000, 0, 86400001] : List Int))).bind fun bt325 => ((pileref1_TimesFault.f k bt300.1 bt300.2.1 bt300.2.2.1).bind fun t328 => (pilelaw1_HoursCounted.j0 k bt300.1 bt320.1 bt325.1 t328 bt300.2.1 bt300.2.2.1 bt310.1 bt315.1))))))) = some r := h); clear h; replace H := Option.bind_eq_some_iff.mp H; obtain ⟨⟨t300, t303, t304, t305⟩, A20, H⟩ := H; (replace H : ((pilemake_Stream_Pick.f l0 t305 (([0, 1000, 60000, (-1)] : List Int))).bind fun bt310 => ((pilemake_Stream_Pick.f l0 bt310.2 (([1000, 500000, 8000000, 345686400001] : List Int))).bind fun bt315 => ((pilemake_Stream_Pick.f l0 bt315.2 (([0, 61000, 3600000, 10000000, (-1)] : List Int))).bind fun bt320 => ((pilemake_Stream_Pick.f l0 bt320.2 (([60000, 900000, 3600000, 0, 86400001] : List Int))).bind fun bt325 => ((pileref1_TimesFault.f k t300 t303 t304).bind fun t328 => (pilelaw1_HoursCounted.j0 k t300 bt320.1 bt325.1 t328 t303 t304 bt310.1 bt315.1)))))) = some r := H); have A2 := Aside0.mk A20; clear A20; obtain ⟨y307, hy307⟩ : ∃ y_ : List Int, y_ = (([0, 1000, 60000, (-1)] : List Int)) := ⟨_, rfl⟩; (replace H : ((pilemake_Stream_Pick.f l0 t305 y307).bind fun bt310 => ((pilemake_Stream_Pick.f l0 bt310.2 (([1000, 500000, 8000000, 345686400001] : List Int))).bind fun bt315 => ((pilemake_Stream_Pick.f l0 bt315.2 (([0, 61000, 3600000, 10000000, (-1)] : List Int))).bind fun bt320 => ((pilemake_Stream_Pick.f l0 bt320.2 (([60000, 900000, 3600000, 0, 86400001] : List Int))).bind fun bt325 => ((pileref1_TimesFault.f k t300 t303 t304).bind fun t328 => (pilelaw1_HoursCounted.j0 k t300 bt320.1 bt325.1 t328 t303 t304 bt310.1 bt315.1)))))) = some r := by first | (rw [hy307]; with_reducible exact H) | (have H2_ := (Option.bind_some _ _).symm.trans H; rw [hy307]; with_reducible exact H2_) | (have H2_ := (Option.bind_some _ _).symm.trans H; with_reducible exact H2_) | with_reducible exact H | (rw [hy307]; exact H) | exact H); have Ny307 := Aside0.mk hy307; clear hy307; replace H := Option.bind_eq_some_iff.mp H; obtain ⟨⟨t310, t311⟩, A30, H⟩ := H; (replace H : ((pilemake_Stream_Pick.f l0 t311 (([1000, 500000, 8000000, 345686400001] : List Int))).bind fun bt315 => ((pilemake_Stream_Pick.f l0 bt315.2 (([0, 61000, 3600000, 10000000, (-1)] : List Int))).bind fun bt320 => ((pilemake_Stream_Pick.f l0 bt320.2 (([60000, 900000, 3600000, 0, 86400001] : List Int))).bind fun bt325 => ((pileref1_TimesFault.f k t300 t303 t304).bind fun t328 => (pilelaw1_HoursCounted.j0 k t300 bt320.1 bt325.1 t328 t303 t304 t310 bt315.1))))) = some r := H); have A3 := Aside0.mk A30; clear A30; obtain ⟨y312, hy312⟩ : ∃ y_ : List Int, y_ = (([1000, 500000, 8000000, 345686400001] : List Int)) := ⟨_, rfl⟩; (replace H : ((pilemake_Stream_Pick.f l0 t311 y312).bind fun bt315 => ((pilemake_Stream_Pick.f l0 bt315.2 (([0, 61000, 3600000, 10000000, (-1)] : List Int))).bind fun bt320 => ((pilemake_Stream_Pick.f l0 bt320.2 (([60000, 900000, 3600000, 0, 86400001] : List Int))).bind fun bt325 => ((pileref1_TimesFault.f k t300 t303 t304).bind fun t328 => (pilelaw1_HoursCounted.j0 k t300 bt320.1 bt325.1 t328 t303 t304 t310 bt315.1))))) = some r := by first | (rw [hy312]; with_reducible exact H) | (have H2_ := (Option.bind_some _ _).symm.trans H; rw [hy312]; with_reducible exact H2_) | (have H2_ := (Option.bind_some _ _).symm.trans H; with_reducible exact H2_) | with_reducible exact H | (rw [hy312]; exact H) | exact H); have Ny312 := Aside0.mk hy312; clear hy312; replace H := Option.bind_eq_some_iff.mp H; obtain ⟨⟨t315, t316⟩, A40, H⟩ := H; (replace H : ((pilemake_Stream_Pick.f l0 t316 (([0, 61000, 3600000, 10000000, (-1)] : List Int))).bind fun bt320 => ((pilemake_Stream_Pick.f l0 bt320.2 (([60000, 900000, 3600000, 0, 86400001] : List Int))).bind fun bt325 => ((pileref1_TimesFault.f k t300 t303 t304).bind fun t328 => (pilelaw1_HoursCounted.j0 k t300 bt320.1 bt325.1 t328 t303 t304 t310 t315)))) = some r := H); have A4 := Aside0.mk A40; clear A40; obtain ⟨y317, hy317⟩ : ∃ y_ : List Int, y_ = (([0, 61000, 3600000, 10000000, (-1)] : List Int)) := ⟨_, rfl⟩; (replace H : ((pilemake_Stream_Pick.f l0 t316 y317).bind fun bt320 => ((pilemake_Stream_Pick.f l0 bt320.2 (([60000, 900000, 3600000, 0, 86400001] : List Int))).bind fun bt325 => ((pileref1_TimesFault.f k t300 t303 t304).bind fun t328 => (pilelaw1_HoursCounted.j0 k t300 bt320.1 bt325.1 t328 t303 t304 t310 t315)))) = some r := by first | (rw [hy317]; with_reducible exact H) | (have H2_ := (Option.bind_some _ _).symm.trans H; rw [hy317]; with_reducible exact H2_) | (have H2_ := (Option.bind_some _ _).symm.trans H; with_reducible exact H2_) | with_reducible exact H | (rw [hy317]; exact H) | exact H); have Ny317 := Aside0.mk hy317; clear hy317; replace H := Option.bind_eq_some_iff.mp H; obtain ⟨⟨t320, t321⟩, A50, H⟩ := H; (replace H : ((pilemake_Stream_Pick.f l0 t321 (([60000, 900000, 3600000, 0, 86400001] : List Int))).bind fun bt325 => ((pileref1_TimesFault.f k t300 t303 t304).bind fun t328 => (pilelaw1_HoursCounted.j0 k t300 t320 bt325.1 t328 t303 t304 t310 t315))) = some r := H); have A5 := Aside0.mk A50; clear A50; obtain ⟨y322, hy322⟩ : ∃ y_ : List Int, y_ = (([60000, 900000, 3600000, 0, 86400001] : List Int)) := ⟨_, rfl⟩; (replace H : ((pilemake_Stream_Pick.f l0 t321 y322).bind fun bt325 => ((pileref1_TimesFault.f k t300 t303 t304).bind fun t328 => (pilelaw1_HoursCounted.j0 k t300 t320 bt325.1 t328 t303 t304 t310 t315))) = some r := by first | (rw [hy322]; with_reducible exact H) | (have H2_ := (Option.bind_some _ _).symm.trans H; rw [hy322]; with_reducible exact H2_) | (have H2_ := (Option.bind_some _ _).symm.trans H; with_reducible exact H2_) | with_reducible exact H | (rw [hy322]; exact H) | exact H); have Ny322 := Aside0.mk hy322; clear hy322; replace H := Option.bind_eq_some_iff.mp H; obtain ⟨⟨t325, t326⟩, A60, H⟩ := H; (replace H : ((pileref1_TimesFault.f k t300 t303 t304).bind fun t328 => (pilelaw1_HoursCounted.j0 k t300 t320 t325 t328 t303 t304 t310 t315)) = some r := H); have A6 := Aside0.mk A60; clear A60; have HC7 := Aside0.mk H; clear H
  go_enter Try.func3, Try.ntmps3
  go_upto_region 4 with (first | ((with_reducible refine gate_dst (N := 35) rfl ?_); refine box_event ?hg (N := 35) ?hd (cs := #[.slice A0 l0.length c0, .int .i64 0]) (t := 25) ?hr ?_; (case hd => rfl); (case hg => rfl); (case hr => first | (go_simp; done) | (go_simp; rfl)); intro gb299 hg w8 hbox hb; have n0_ := Aside0.mk (below_step (by repeat (first | (with_reducible first | exact HB.out | apply below_alloc | apply pw_below_drewN | apply below_drew1) | exact HB.out)) hb); have n1_ := Aside0.mk ((⟨_, _, hbox, (by rw [hg]; exact (below_size (by repeat (first | (with_reducible first | exact HB.out | apply below_alloc | apply pw_below_drewN | apply below_drew1) | exact HB.out))) : w.heap.size ≤ gb299), HR0.out⟩ : IsS25 w w8 gb299 l0 0)); clear HB; have HB := n0_; have HI299 := n1_; clear n0_ n1_; clear hb hbox hg) | ((with_reducible refine gate_callee (f := 6) rfl ?_); refine goesL_ (some 38) rfl rfl Try.func6 (by kernel_rfl) rfl #[.pointer (some ⟨gb299, 0, none⟩)] rfl (by (try simp only [List.map_toArray, List.map_cons, List.map_nil]); first | done | rfl | (simp only [List.length_drop, List.length_take]; rfl)) ?_; (with_reducible refine (pilemake_Stream_TimesOf.calls k gb299 l0 0 t300 t303 t304 t305 w _ ?side1 ?side2 A2.out).mono ?_); (case side1 => repeat (first | (with_reducible first | exact HI299.out | apply IsS25.alloc | apply IsS25.drewN | apply IsS25.drew | apply IsS25.set_1) | exact HI299.out)); (case side2 => repeat (first | (with_reducible first | exact HB.out | apply below_alloc | apply pw_below_drewN | apply below_drew1 | refine below_set ?_ (IsS25.ge HI299.out)) | exact HB.out)); rintro e w9 ⟨v301, rfl, ho0, hi, hb, hk⟩; refine ⟨_, rfl, ?_⟩; have n0_ := Aside0.mk (Kd.R_lower ho0 (below_size (by repeat (first | (with_reducible first | exact HB.out | apply below_alloc | apply pw_below_drewN | apply below_drew1 | refine below_set ?_ (IsS25.ge HI299.out)) | exact HB.out)))); have n1_ := Aside0.mk (hb); have n2_ := Aside0.mk (hi); clear HB; clear HI299; have HO302 := n0_; have HB := n1_; have HI299 := n2_; clear n0_ n1_ n2_; (try clear hb); (try clear hb2); (try clear hk); (try clear hi); (try clear ho0)) | ((with_reducible refine gate_dst (N := 5) rfl ?_); refine box_event ?hg (N := 5) ?hd (cs := #[.int .i64 0, .int .i64 0]) (t := 27) ?hr ?_; (case hd => rfl); (case hg => rfl); (case hr => first | (go_simp; done) | (go_simp; rfl)); intro gb306 hg w10 hbox hb; have n0_ := Aside0.mk (Kd.R_below (Kd.R_up HO302.out) hb); have n1_ := Aside0.mk (IsS25.below (by repeat (first | (with_reducible first | exact HI299.out | apply IsS25.alloc | apply IsS25.drewN | apply IsS25.drew | apply IsS25.set_1) | exact HI299.out)) hb); have n2_ := Aside0.mk (below_step (by repeat (first | (with_reducible first | exact HB.out | apply below_alloc | apply pw_below_drewN | apply below_drew1 | refine below_set ?_ (IsS25.ge HI299.out)) | exact HB.out)) hb); have n3_ := Aside0.mk (hbox); have n4_ := Aside0.mk ((by rw [hg]; exact (below_size (by repeat (first | (with_reducible first | exact HB.out | apply below_alloc | apply pw_below_drewN | apply below_drew1 | refine below_set ?_ (IsS25.ge HI299.out)) | exact HB.out))) : w.heap.size ≤ gb306)); have n5_ := Aside0.mk ((by rw [hg]; exact (below_size (by repeat (first | (with_reducible first | exact HB.out | apply below_alloc | apply pw_below_drewN | apply below_drew1 | refine below_set ?_ (IsS25.ge HI299.out)) | exact HB.out))) : w.heap.size ≤ gb306)); have n6_ := Aside0.mk ((by rw [hg]; exact Nat.ne_of_lt (IsS25.lt (show IsS25 w _ gb299 l0 t305 from by repeat (first | (with_reducible first | exact HI299.out | apply IsS25.alloc | apply IsS25.drewN | apply IsS25.drew | apply IsS25.set_1) | exact HI299.out))) : gb299 ≠ gb306)); have n7_ := Aside0.mk ((by rw [hg]; exact Nat.ne_of_gt (IsS25.lt (show IsS25 w _ gb299 l0 t305 from by repeat (first | (with_reducible first | exact HI299.out | apply IsS25.alloc | apply IsS25.drewN | apply IsS25.drew | apply IsS25.set_1) | exact HI299.out))) : gb306 ≠ gb299)); clear HO302; clear HI299; clear HB; have HO302 := n0_; have HI299 := n1_; have HB := n2_; have BK306 := n3_; have GW306 := n4_; have GE306 := n5_; have NB299_306 := n6_; have NB306_299 := n7_; clear n0_ n1_ n2_ n3_ n4_ n5_ n6_ n7_; clear hb hbox hg; have hnb11 := NB306_299.out; have hnc11 := NB299_306.out; have hcz12_0 : w10.cell? ⟨gb306, 0, none⟩ = some (.int .i64 0) := (blk_cell BK306.out 0).trans rfl; have hcz12_1 : w10.cell? ⟨gb306, 1, none⟩ = some (.int .i64 0) := (blk_cell BK306.out 1).trans rfl; have hfz12_0 := blk_frozen BK306.out 0; have hfz12_1 := blk_frozen BK306.out 1) | ((with_reducible refine gate_dst (N := 42) rfl ?_); refine Kd.R_lit (Kd.int .i64) _ 3 ?hg (N := 42) ?hd (xs := ([0, 1000, 60000, (-1)] : List Int)) (inner := [.int .i64 0, .int .i64 1000, .int .i64 60000, .int .i64 (-1)]) (ok := fun _ => True) (okp := fun _ => True) ?hr ?hp (fun _ hk => hk) trivial (Below.refl _ _) (Nat.le_refl _) (by simp) ?_; (case hd => rfl); (case hg => rfl); (case hr => first | (go_simp; done) | (go_simp; rfl)); (case hp => exact (Reps.one (show Kd.M (Kd.int .i64) _ _ _ 0 [.int .i64 0] from rfl) (Reps.one (show Kd.M (Kd.int .i64) _ _ _ 1000 [.int .i64 1000] from rfl) (Reps.one (show Kd.M (Kd.int .i64) _ _ _ 60000 [.int .i64 60000] from rfl) (Reps.one (show Kd.M (Kd.int .i64) _ _ _ (-1) [.int .i64 (-1)] from rfl) (Reps.none _ _)))))); intro v308 w13 ho14 hb hg_ hnew_; clear hg_ hnew_; (first | rw [← Ny307.out] at ho14 | (simp only [Int.reduceToNat] at ho14; rw [← Ny307.out] at ho14)); have n0_ := Aside0.mk (Kd.R_elder' (by (with_reducible repeat (first | apply Kd.R_alloc | apply Kd.R_drewN | apply Kd.R_drew)); exact (Kd.R_mono (Kd.R_far (p := ⟨gb306, 1, none⟩) (Kd.R_far (p := ⟨gb306, 0, none⟩) (Kd.R_types HO302.out BK306.out (by decide)) (fun _ hk => hk.2) (.int .i64 t303)) (fun _ hk => hk.2) (.int .i64 t304)) (fun _ h_ => h_.1))) (Kd.R_base ho14) hb); have n1_ := Aside0.mk (Kd.R_lower (Kd.R_new' ho14 (Kd.R_lt (by (with_reducible repeat (first | apply Kd.R_alloc | apply Kd.R_drewN | apply Kd.R_drew)); exact (Kd.R_mono (Kd.R_far (p := ⟨gb306, 1, none⟩) (Kd.R_far (p := ⟨gb306, 0, none⟩) (Kd.R_types HO302.out BK306.out (by decide)) (fun _ hk => hk.2) (.int .i64 t303)) (fun _ hk => hk.2) (.int .i64 t304)) (fun _ h_ => h_.1))))) (below_size (by repeat (first | (with_reducible first | exact HB.out | apply below_alloc | apply pw_below_drewN | apply below_drew1 | refine below_set ?_ (IsS25.ge HI299.out) | refine below_set ?_ GE306.out) | exact HB.out)))); have n2_ := Aside0.mk (IsS25.below (show IsS25 w ((w10.setCell ⟨gb306, 0, none⟩ (.int .i64 t303)).setCell ⟨gb306, 1, none⟩ (.int .i64 t304)) gb299 l0 t305 from by repeat (first | (with_reducible first | exact HI299.out | apply IsS25.alloc | apply IsS25.drewN | apply IsS25.drew | apply IsS25.set_1 | refine IsS25.far ?_ NB299_306.out _) | exact HI299.out)) hb); have n3_ := Aside0.mk (blk_below (g := gb306) (o := .cells #[.int .i64 t303, .int .i64 t304] 27 (0, 0)) (by (with_reducible repeat (first | refine blk_drewN ?_ _ | refine blk_drew ?_ | refine blk_alloc ?_ _)); refine blk_put (cs := #[.int .i64 t303, .int .i64 0]) ?_ 1 _ rfl; (with_reducible repeat (first | refine blk_drewN ?_ _ | refine blk_drew ?_ | refine blk_alloc ?_ _)); refine blk_put (cs := #[.int .i64 0, .int .i64 0]) ?_ 0 _ rfl; (with_reducible repeat (first | refine blk_drewN ?_ _ | refine blk_drew ?_ | refine blk_alloc ?_ _)); exact BK306.out) hb); have n4_ := Aside0.mk (below_step (by repeat (first | (with_reducible first | exact HB.out | apply below_alloc | apply pw_below_drewN | apply below_drew1 | refine below_set ?_ (IsS25.ge HI299.out) | refine below_set ?_ GE306.out) | exact HB.out)) hb); clear HO302; clear HI299; clear BK306; clear HB; have HO302 := n0_; have HO309 := n1_; have HI299 := n2_; have BK306 := n3_; have HB := n4_; clear n0_ n1_ n2_ n3_ n4_; clear hb ho14; obtain ⟨Ao15, co15, eo15⟩ := Kd.R_slice HO309.out; subst eo15) | ((with_reducible refine gate_callee (f := 7) rfl ?_); refine goesL_ (some 43) rfl rfl Try.func7 (by kernel_rfl) rfl #[.pointer (some ⟨gb299, 0, none⟩), .slice Ao15 y307.length co15] rfl (by (try simp only [List.map_toArray, List.map_cons, List.map_nil]); first | done | rfl | (simp only [List.length_drop, List.length_take]; rfl)) ?_; (with_reducible refine (pilemake_Stream_Pick.calls gb299 l0 t305 _ _ y307 t310 t311 w _ ?side1 ?side2 ?side3 ?side4 ?side5 A3.out).mono ?_); (case side1 => repeat (first | (with_reducible first | exact HI299.out | apply IsS25.alloc | apply IsS25.drewN | apply IsS25.drew | apply IsS25.set_1 | refine IsS25.far ?_ NB299_306.out _) | exact HI299.out)); (case side2 => repeat (first | (with_reducible first | exact HB.out | apply below_alloc | apply pw_below_drewN | apply below_drew1 | refine below_set ?_ (IsS25.ge HI299.out) | refine below_set ?_ GE306.out) | exact HB.out)); (case side3 => repeat (first | exact (Kd.R_reads' HO309.out).2.2 | (with_reducible refine Kd.C_alloc ?_ _) | (with_reducible refine Kd.C_drewN ?_ _) | (with_reducible refine Kd.C_drew ?_))); (case side4 => exact (Kd.R_reads' HO309.out).2.1); (case side5 => exact far_slice (IsS25.own_ne HI299.out HO309.out (by decide))); rintro e w16 ⟨rfl, hi, hb, hk⟩; refine ⟨_, rfl, ?_⟩; have n0_ := Aside0.mk (Kd.R_mono (Kd.R_keep (IsS25.apart (show IsS25 w _ gb299 l0 t305 from by repeat (first | (with_reducible first | exact HI299.out | apply IsS25.alloc | apply IsS25.drewN | apply IsS25.drew | apply IsS25.set_1 | refine IsS25.far ?_ NB299_306.out _) | exact HI299.out)) (Kd.R_up HO302.out) (by decide)) hk (fun _ h => h.2)) (fun _ h => h.1)); have n1_ := Aside0.mk (KeepBut.blk hk (g' := gb306) (o := .cells #[.int .i64 t303, .int .i64 t304] 27 (0, 0)) (blk_up BK306.out) NB306_299.out (by simp)); have n2_ := Aside0.mk (Kd.R_mono (Kd.R_keep (IsS25.apart (show IsS25 w _ gb299 l0 t305 from by repeat (first | (with_reducible first | exact HI299.out | apply IsS25.alloc | apply IsS25.drewN | apply IsS25.drew | apply IsS25.set_1 | refine IsS25.far ?_ NB299_306.out _) | exact HI299.out)) (Kd.R_up HO309.out) (by decide)) hk (fun _ h => h.2)) (fun _ h => h.1)); have n3_ := Aside0.mk (hb); have n4_ := Aside0.mk (hi); clear HO302; clear BK306; clear HO309; clear HB; clear HI299; have HO302 := n0_; have BK306 := n1_; have HO309 := n2_; have HB := n3_; have HI299 := n4_; clear n0_ n1_ n2_ n3_ n4_; (try clear hb); (try clear hb2); (try clear hk); (try clear hi)) | ((with_reducible refine gate_dst (N := 45) rfl ?_); refine Kd.R_lit (Kd.int .i64) _ 3 ?hg (N := 45) ?hd (xs := ([1000, 500000, 8000000, 345686400001] : List Int)) (inner := [.int .i64 1000, .int .i64 500000, .int .i64 8000000, .int .i64 345686400001]) (ok := fun _ => True) (okp := fun _ => True) ?hr ?hp (fun _ hk => hk) trivial (Below.refl _ _) (Nat.le_refl _) (by simp) ?_; (case hd => rfl); (case hg => rfl); (case hr => first | (go_simp; done) | (go_simp; rfl)); (case hp => exact (Reps.one (show Kd.M (Kd.int .i64) _ _ _ 1000 [.int .i64 1000] from rfl) (Reps.one (show Kd.M (Kd.int .i64) _ _ _ 500000 [.int .i64 500000] from rfl) (Reps.one (show Kd.M (Kd.int .i64) _ _ _ 8000000 [.int .i64 8000000] from rfl) (Reps.one (show Kd.M (Kd.int .i64) _ _ _ 345686400001 [.int .i64 345686400001] from rfl) (Reps.none _ _)))))); intro v313 w17 ho18 hb hg_ hnew_; clear hg_ hnew_; (first | rw [← Ny312.out] at ho18 | (simp only [Int.reduceToNat] at ho18; rw [← Ny312.out] at ho18)); have n0_ := Aside0.mk (Kd.R_elder' (Kd.R_up HO302.out) (Kd.R_base ho18) hb); have n1_ := Aside0.mk (Kd.R_elder' (Kd.R_up HO309.out) (Kd.R_base ho18) hb); have n2_ := Aside0.mk (Kd.R_lower (Kd.R_new' (Kd.R_new' ho18 (Kd.R_lt (Kd.R_up HO302.out))) (Kd.R_lt (Kd.R_up HO309.out))) (below_size (by repeat (first | (with_reducible first | exact HB.out | apply below_alloc | apply pw_below_drewN | apply below_drew1 | refine below_set ?_ (IsS25.ge HI299.out) | refine below_set ?_ GE306.out) | exact HB.out)))); have n3_ := Aside0.mk (IsS25.below (by repeat (first | (with_reducible first | exact HI299.out | apply IsS25.alloc | apply IsS25.drewN | apply IsS25.drew | apply IsS25.set_1 | refine IsS25.far ?_ NB299_306.out _) | exact HI299.out)) hb); have n4_ := Aside0.mk (blk_below (g := gb306) (o := .cells #[.int .i64 t303, .int .i64 t304] 27 (0, 0)) (blk_up BK306.out) hb); have n5_ := Aside0.mk (below_step (by repeat (first | (with_reducible first | exact HB.out | apply below_alloc | apply pw_below_drewN | apply below_drew1 | refine below_set ?_ (IsS25.ge HI299.out) | refine below_set ?_ GE306.out) | exact HB.out)) hb); clear HO302; clear HO309; clear HI299; clear BK306; clear HB; have HO302 := n0_; have HO309 := n1_; have HO314 := n2_; have HI299 := n3_; have BK306 := n4_; have HB := n5_; clear n0_ n1_ n2_ n3_ n4_ n5_; clear hb ho18; obtain ⟨Ao19, co19, eo19⟩ := Kd.R_slice HO314.out; subst eo19) | ((with_reducible refine gate_callee (f := 7) rfl ?_); refine goesL_ (some 46) rfl rfl Try.func7 (by kernel_rfl) rfl #[.pointer (some ⟨gb299, 0, none⟩), .slice Ao19 y312.length co19] rfl (by (try simp only [List.map_toArray, List.map_cons, List.map_nil]); first | done | rfl | (simp only [List.length_drop, List.length_take]; rfl)) ?_; (with_reducible refine (pilemake_Stream_Pick.calls gb299 l0 t311 _ _ y312 t315 t316 w _ ?side1 ?side2 ?side3 ?side4 ?side5 A4.out).mono ?_); (case side1 => repeat (first | (with_reducible first | exact HI299.out | apply IsS25.alloc | apply IsS25.drewN | apply IsS25.drew | apply IsS25.set_1 | refine IsS25.far ?_ NB299_306.out _) | exact HI299.out)); (case side2 => repeat (first | (with_reducible first | exact HB.out | apply below_alloc | apply pw_below_drewN | apply below_drew1 | refine below_set ?_ (IsS25.ge HI299.out) | refine below_set ?_ GE306.out) | exact HB.out)); (case side3 => repeat (first | exact (Kd.R_reads' HO314.out).2.2 | (with_reducible refine Kd.C_alloc ?_ _) | (with_reducible refine Kd.C_drewN ?_ _) | (with_reducible refine Kd.C_drew ?_))); (case side4 => exact (Kd.R_reads' HO314.out).2.1); (case side5 => exact far_slice (IsS25.own_ne HI299.out HO314.out (by decide))); rintro e w20 ⟨rfl, hi, hb, hk⟩; refine ⟨_, rfl, ?_⟩; have n0_ := Aside0.mk (Kd.R_mono (Kd.R_keep (IsS25.apart (show IsS25 w _ gb299 l0 t311 from by repeat (first | (with_reducible first | exact HI299.out | apply IsS25.alloc | apply IsS25.drewN | apply IsS25.drew | apply IsS25.set_1 | refine IsS25.far ?_ NB299_306.out _) | exact HI299.out)) (Kd.R_up HO302.out) (by decide)) hk (fun _ h => h.2)) (fun _ h => h.1)); have n1_ := Aside0.mk (KeepBut.blk hk (g' := gb306) (o := .cells #[.int .i64 t303, .int .i64 t304] 27 (0, 0)) (blk_up BK306.out) NB306_299.out (by simp)); have n2_ := Aside0.mk (Kd.R_mono (Kd.R_keep (IsS25.apart (show IsS25 w _ gb299 l0 t311 from by repeat (first | (with_reducible first | exact HI299.out | apply IsS25.alloc | apply IsS25.drewN | apply IsS25.drew | apply IsS25.set_1 | refine IsS25.far ?_ NB299_306.out _) | exact HI299.out)) (Kd.R_up HO309.out) (by decide)) hk (fun _ h => h.2)) (fun _ h => h.1)); have n3_ := Aside0.mk (Kd.R_mono (Kd.R_keep (IsS25.apart (show IsS25 w _ gb299 l0 t311 from by repeat (first | (with_reducible first | exact HI299.out | apply IsS25.alloc | apply IsS25.drewN | apply IsS25.drew | apply IsS25.set_1 | refine IsS25.far ?_ NB299_306.out _) | exact HI299.out)) (Kd.R_up HO314.out) (by decide)) hk (fun _ h => h.2)) (fun _ h => h.1)); have n4_ := Aside0.mk (hb); have n5_ := Aside0.mk (hi); clear HO302; clear BK306; clear HO309; clear HO314; clear HB; clear HI299; have HO302 := n0_; have BK306 := n1_; have HO309 := n2_; have HO314 := n3_; have HB := n4_; have HI299 := n5_; clear n0_ n1_ n2_ n3_ n4_ n5_; (try clear hb); (try clear hb2); (try clear hk); (try clear hi)) | ((with_reducible refine gate_dst (N := 49) rfl ?_); refine Kd.R_lit (Kd.int .i64) _ 3 ?hg (N := 49) ?hd (xs := ([0, 61000, 3600000, 10000000, (-1)] : List Int)) (inner := [.int .i64 0, .int .i64 61000, .int .i64 3600000, .int .i64 10000000, .int .i64 (-1)]) (ok := fun _ => True) (okp := fun _ => True) ?hr ?hp (fun _ hk => hk) trivial (Below.refl _ _) (Nat.le_refl _) (by simp) ?_; (case hd => rfl); (case hg => rfl); (case hr => first | (go_simp; done) | (go_simp; rfl)); (case hp => exact (Reps.one (show Kd.M (Kd.int .i64) _ _ _ 0 [.int .i64 0] from rfl) (Reps.one (show Kd.M (Kd.int .i64) _ _ _ 61000 [.int .i64 61000] from rfl) (Reps.one (show Kd.M (Kd.int .i64) _ _ _ 3600000 [.int .i64 3600000] from rfl) (Reps.one (show Kd.M (Kd.int .i64) _ _ _ 10000000 [.int .i64 10000000] from rfl) (Reps.one (show Kd.M (Kd.int .i64) _ _ _ (-1) [.int .i64 (-1)] from rfl) (Reps.none _ _))))))); intro v318 w21 ho22 hb hg_ hnew_; clear hg_ hnew_; (first | rw [← Ny317.out] at ho22 | (simp only [Int.reduceToNat] at ho22; rw [← Ny317.out] at ho22)); have n0_ := Aside0.mk (Kd.R_elder' (Kd.R_up HO302.out) (Kd.R_base ho22) hb); have n1_ := Aside0.mk (Kd.R_elder' (Kd.R_up HO309.out) (Kd.R_base ho22) hb); have n2_ := Aside0.mk (Kd.R_elder' (Kd.R_up HO314.out) (Kd.R_base ho22) hb); have n3_ := Aside0.mk (Kd.R_lower (Kd.R_new' (Kd.R_new' (Kd.R_new' ho22 (Kd.R_lt (Kd.R_up HO302.out))) (Kd.R_lt (Kd.R_up HO309.out))) (Kd.R_lt (Kd.R_up HO314.out))) (below_size (by repeat (first | (with_reducible first | exact HB.out | apply below_alloc | apply pw_below_drewN | apply below_drew1 | refine below_set ?_ (IsS25.ge HI299.out) | refine below_set ?_ GE306.out) | exact HB.out)))); have n4_ := Aside0.mk (IsS25.below (by repeat (first | (with_reducible first | exact HI299.out | apply IsS25.alloc | apply IsS25.drewN | apply IsS25.drew | apply IsS25.set_1 | refine IsS25.far ?_ NB299_306.out _) | exact HI299.out)) hb); have n5_ := Aside0.mk (blk_below (g := gb306) (o := .cells #[.int .i64 t303, .int .i64 t304] 27 (0, 0)) (blk_up BK306.out) hb); have n6_ := Aside0.mk (below_step (by repeat (first | (with_reducible first | exact HB.out | apply below_alloc | apply pw_below_drewN | apply below_drew1 | refine below_set ?_ (IsS25.ge HI299.out) | refine below_set ?_ GE306.out) | exact HB.out)) hb); clear HO302; clear HO309; clear HO314; clear HI299; clear BK306; clear HB; have HO302 := n0_; have HO309 := n1_; have HO314 := n2_; have HO319 := n3_; have HI299 := n4_; have BK306 := n5_; have HB := n6_; clear n0_ n1_ n2_ n3_ n4_ n5_ n6_; clear hb ho22; obtain ⟨Ao23, co23, eo23⟩ := Kd.R_slice HO319.out; subst eo23) | ((with_reducible refine gate_callee (f := 7) rfl ?_); refine goesL_ (some 50) rfl rfl Try.func7 (by kernel_rfl) rfl #[.pointer (some ⟨gb299, 0, none⟩), .slice Ao23 y317.length co23] rfl (by (try simp only [List.map_toArray, List.map_cons, List.map_nil]); first | done | rfl | (simp only [List.length_drop, List.length_take]; rfl)) ?_; (with_reducible refine (pilemake_Stream_Pick.calls gb299 l0 t316 _ _ y317 t320 t321 w _ ?side1 ?side2 ?side3 ?side4 ?side5 A5.out).mono ?_); (case side1 => repeat (first | (with_reducible first | exact HI299.out | apply IsS25.alloc | apply IsS25.drewN | apply IsS25.drew | apply IsS25.set_1 | refine IsS25.far ?_ NB299_306.out _) | exact HI299.out)); (case side2 => repeat (first | (with_reducible first | exact HB.out | apply below_alloc | apply pw_below_drewN | apply below_drew1 | refine below_set ?_ (IsS25.ge HI299.out) | refine below_set ?_ GE306.out) | exact HB.out)); (case side3 => repeat (first | exact (Kd.R_reads' HO319.out).2.2 | (with_reducible refine Kd.C_alloc ?_ _) | (with_reducible refine Kd.C_drewN ?_ _) | (with_reducible refine Kd.C_drew ?_))); (case side4 => exact (Kd.R_reads' HO319.out).2.1); (case side5 => exact far_slice (IsS25.own_ne HI299.out HO319.out (by decide))); rintro e w24 ⟨rfl, hi, hb, hk⟩; refine ⟨_, rfl, ?_⟩; have n0_ := Aside0.mk (Kd.R_mono (Kd.R_keep (IsS25.apart (show IsS25 w _ gb299 l0 t316 from by repeat (first | (with_reducible first | exact HI299.out | apply IsS25.alloc | apply IsS25.drewN | apply IsS25.drew | apply IsS25.set_1 | refine IsS25.far ?_ NB299_306.out _) | exact HI299.out)) (Kd.R_up HO302.out) (by decide)) hk (fun _ h => h.2)) (fun _ h => h.1)); have n1_ := Aside0.mk (KeepBut.blk hk (g' := gb306) (o := .cells #[.int .i64 t303, .int .i64 t304] 27 (0, 0)) (blk_up BK306.out) NB306_299.out (by simp)); have n2_ := Aside0.mk (Kd.R_mono (Kd.R_keep (IsS25.apart (show IsS25 w _ gb299 l0 t316 from by repeat (first | (with_reducible first | exact HI299.out | apply IsS25.alloc | apply IsS25.drewN | apply IsS25.drew | apply IsS25.set_1 | refine IsS25.far ?_ NB299_306.out _) | exact HI299.out)) (Kd.R_up HO309.out) (by decide)) hk (fun _ h => h.2)) (fun _ h => h.1)); have n3_ := Aside0.mk (Kd.R_mono (Kd.R_keep (IsS25.apart (show IsS25 w _ gb299 l0 t316 from by repeat (first | (with_reducible first | exact HI299.out | apply IsS25.alloc | apply IsS25.drewN | apply IsS25.drew | apply IsS25.set_1 | refine IsS25.far ?_ NB299_306.out _) | exact HI299.out)) (Kd.R_up HO314.out) (by decide)) hk (fun _ h => h.2)) (fun _ h => h.1)); have n4_ := Aside0.mk (Kd.R_mono (Kd.R_keep (IsS25.apart (show IsS25 w _ gb299 l0 t316 from by repeat (first | (with_reducible first | exact HI299.out | apply IsS25.alloc | apply IsS25.drewN | apply IsS25.drew | apply IsS25.set_1 | refine IsS25.far ?_ NB299_306.out _) | exact HI299.out)) (Kd.R_up HO319.out) (by decide)) hk (fun _ h => h.2)) (fun _ h => h.1)); have n5_ := Aside0.mk (hb); have n6_ := Aside0.mk (hi); clear HO302; clear BK306; clear HO309; clear HO314; clear HO319; clear HB; clear HI299; have HO302 := n0_; have BK306 := n1_; have HO309 := n2_; have HO314 := n3_; have HO319 := n4_; have HB := n5_; have HI299 := n6_; clear n0_ n1_ n2_ n3_ n4_ n5_ n6_; (try clear hb); (try clear hb2); (try clear hk); (try clear hi)) | ((with_reducible refine gate_dst (N := 52) rfl ?_); refine Kd.R_lit (Kd.int .i64) _ 3 ?hg (N := 52) ?hd (xs := ([60000, 900000, 3600000, 0, 86400001] : List Int)) (inner := [.int .i64 60000, .int .i64 900000, .int .i64 3600000, .int .i64 0, .int .i64 86400001]) (ok := fun _ => True) (okp := fun _ => True) ?hr ?hp (fun _ hk => hk) trivial (Below.refl _ _) (Nat.le_refl _) (by simp) ?_; (case hd => rfl); (case hg => rfl); (case hr => first | (go_simp; done) | (go_simp; rfl)); (case hp => exact (Reps.one (show Kd.M (Kd.int .i64) _ _ _ 60000 [.int .i64 60000] from rfl) (Reps.one (show Kd.M (Kd.int .i64) _ _ _ 900000 [.int .i64 900000] from rfl) (Reps.one (show Kd.M (Kd.int .i64) _ _ _ 3600000 [.int .i64 3600000] from rfl) (Reps.one (show Kd.M (Kd.int .i64) _ _ _ 0 [.int .i64 0] from rfl) (Reps.one (show Kd.M (Kd.int .i64) _ _ _ 86400001 [.int .i64 86400001] from rfl) (Reps.none _ _))))))); intro v323 w25 ho26 hb hg_ hnew_; clear hg_ hnew_; (first | rw [← Ny322.out] at ho26 | (simp only [Int.reduceToNat] at ho26; rw [← Ny322.out] at ho26)); have n0_ := Aside0.mk (Kd.R_elder' (Kd.R_up HO302.out) (Kd.R_base ho26) hb); have n1_ := Aside0.mk (Kd.R_elder' (Kd.R_up HO309.out) (Kd.R_base ho26) hb); have n2_ := Aside0.mk (Kd.R_elder' (Kd.R_up HO314.out) (Kd.R_base ho26) hb); have n3_ := Aside0.mk (Kd.R_elder' (Kd.R_up HO319.out) (Kd.R_base ho26) hb); have n4_ := Aside0.mk (Kd.R_lower (Kd.R_new' (Kd.R_new' (Kd.R_new' (Kd.R_new' ho26 (Kd.R_lt (Kd.R_up HO302.out))) (Kd.R_lt (Kd.R_up HO309.out))) (Kd.R_lt (Kd.R_up HO314.out))) (Kd.R_lt (Kd.R_up HO319.out))) (below_size (by repeat (first | (with_reducible first | exact HB.out | apply below_alloc | apply pw_below_drewN | apply below_drew1 | refine below_set ?_ (IsS25.ge HI299.out) | refine below_set ?_ GE306.out) | exact HB.out)))); have n5_ := Aside0.mk (IsS25.below (by repeat (first | (with_reducible first | exact HI299.out | apply IsS25.alloc | apply IsS25.drewN | apply IsS25.drew | apply IsS25.set_1 | refine IsS25.far ?_ NB299_306.out _) | exact HI299.out)) hb); have n6_ := Aside0.mk (blk_below (g := gb306) (o := .cells #[.int .i64 t303, .int .i64 t304] 27 (0, 0)) (blk_up BK306.out) hb); have n7_ := Aside0.mk (below_step (by repeat (first | (with_reducible first | exact HB.out | apply below_alloc | apply pw_below_drewN | apply below_drew1 | refine below_set ?_ (IsS25.ge HI299.out) | refine below_set ?_ GE306.out) | exact HB.out)) hb); clear HO302; clear HO309; clear HO314; clear HO319; clear HI299; clear BK306; clear HB; have HO302 := n0_; have HO309 := n1_; have HO314 := n2_; have HO319 := n3_; have HO324 := n4_; have HI299 := n5_; have BK306 := n6_; have HB := n7_; clear n0_ n1_ n2_ n3_ n4_ n5_ n6_ n7_; clear hb ho26; obtain ⟨Ao27, co27, eo27⟩ := Kd.R_slice HO324.out; subst eo27) | ((with_reducible refine gate_callee (f := 7) rfl ?_); refine goesL_ (some 53) rfl rfl Try.func7 (by kernel_rfl) rfl #[.pointer (some ⟨gb299, 0, none⟩), .slice Ao27 y322.length co27] rfl (by (try simp only [List.map_toArray, List.map_cons, List.map_nil]); first | done | rfl | (simp only [List.length_drop, List.length_take]; rfl)) ?_; (with_reducible refine (pilemake_Stream_Pick.calls gb299 l0 t321 _ _ y322 t325 t326 w _ ?side1 ?side2 ?side3 ?side4 ?side5 A6.out).mono ?_); (case side1 => repeat (first | (with_reducible first | exact HI299.out | apply IsS25.alloc | apply IsS25.drewN | apply IsS25.drew | apply IsS25.set_1 | refine IsS25.far ?_ NB299_306.out _) | exact HI299.out)); (case side2 => repeat (first | (with_reducible first | exact HB.out | apply below_alloc | apply pw_below_drewN | apply below_drew1 | refine below_set ?_ (IsS25.ge HI299.out) | refine below_set ?_ GE306.out) | exact HB.out)); (case side3 => repeat (first | exact (Kd.R_reads' HO324.out).2.2 | (with_reducible refine Kd.C_alloc ?_ _) | (with_reducible refine Kd.C_drewN ?_ _) | (with_reducible refine Kd.C_drew ?_))); (case side4 => exact (Kd.R_reads' HO324.out).2.1); (case side5 => exact far_slice (IsS25.own_ne HI299.out HO324.out (by decide))); rintro e w28 ⟨rfl, hi, hb, hk⟩; refine ⟨_, rfl, ?_⟩; have n0_ := Aside0.mk (Kd.R_mono (Kd.R_keep (IsS25.apart (show IsS25 w _ gb299 l0 t321 from by repeat (first | (with_reducible first | exact HI299.out | apply IsS25.alloc | apply IsS25.drewN | apply IsS25.drew | apply IsS25.set_1 | refine IsS25.far ?_ NB299_306.out _) | exact HI299.out)) (Kd.R_up HO302.out) (by decide)) hk (fun _ h => h.2)) (fun _ h => h.1)); have n1_ := Aside0.mk (KeepBut.blk hk (g' := gb306) (o := .cells #[.int .i64 t303, .int .i64 t304] 27 (0, 0)) (blk_up BK306.out) NB306_299.out (by simp)); have n2_ := Aside0.mk (Kd.R_mono (Kd.R_keep (IsS25.apart (show IsS25 w _ gb299 l0 t321 from by repeat (first | (with_reducible first | exact HI299.out | apply IsS25.alloc | apply IsS25.drewN | apply IsS25.drew | apply IsS25.set_1 | refine IsS25.far ?_ NB299_306.out _) | exact HI299.out)) (Kd.R_up HO309.out) (by decide)) hk (fun _ h => h.2)) (fun _ h => h.1)); have n3_ := Aside0.mk (Kd.R_mono (Kd.R_keep (IsS25.apart (show IsS25 w _ gb299 l0 t321 from by repeat (first | (with_reducible first | exact HI299.out | apply IsS25.alloc | apply IsS25.drewN | apply IsS25.drew | apply IsS25.set_1 | refine IsS25.far ?_ NB299_306.out _) | exact HI299.out)) (Kd.R_up HO314.out) (by decide)) hk (fun _ h => h.2)) (fun _ h => h.1)); have n4_ := Aside0.mk (Kd.R_mono (Kd.R_keep (IsS25.apart (show IsS25 w _ gb299 l0 t321 from by repeat (first | (with_reducible first | exact HI299.out | apply IsS25.alloc | apply IsS25.drewN | apply IsS25.drew | apply IsS25.set_1 | refine IsS25.far ?_ NB299_306.out _) | exact HI299.out)) (Kd.R_up HO319.out) (by decide)) hk (fun _ h => h.2)) (fun _ h => h.1)); have n5_ := Aside0.mk (Kd.R_mono (Kd.R_keep (IsS25.apart (show IsS25 w _ gb299 l0 t321 from by repeat (first | (with_reducible first | exact HI299.out | apply IsS25.alloc | apply IsS25.drewN | apply IsS25.drew | apply IsS25.set_1 | refine IsS25.far ?_ NB299_306.out _) | exact HI299.out)) (Kd.R_up HO324.out) (by decide)) hk (fun _ h => h.2)) (fun _ h => h.1)); have n6_ := Aside0.mk (hb); have n7_ := Aside0.mk (hi); clear HO302; clear BK306; clear HO309; clear HO314; clear HO319; clear HO324; clear HB; clear HI299; have HO302 := n0_; have BK306 := n1_; have HO309 := n2_; have HO314 := n3_; have HO319 := n4_; have HO324 := n5_; have HB := n6_; have HI299 := n7_; clear n0_ n1_ n2_ n3_ n4_ n5_ n6_ n7_; (try clear hb); (try clear hb2); (try clear hk); (try clear hi)) | ((with_reducible refine gate_dst (N := 6) rfl ?_); refine box_event ?hg (N := 6) ?hd (cs := #[.int .i64 0, .int .i64 0]) (t := 27) ?hr ?_; (case hd => rfl); (case hg => rfl); (case hr => first | (go_simp; done) | (go_simp; rfl)); intro gb327 hg w29 hbox hb; have n0_ := Aside0.mk (Kd.R_below (Kd.R_up HO302.out) hb); have n1_ := Aside0.mk (Kd.R_below (Kd.R_up HO309.out) hb); have n2_ := Aside0.mk (Kd.R_below (Kd.R_up HO314.out) hb); have n3_ := Aside0.mk (Kd.R_below (Kd.R_up HO319.out) hb); have n4_ := Aside0.mk (Kd.R_below (Kd.R_up HO324.out) hb); have n5_ := Aside0.mk (IsS25.below (by repeat (first | (with_reducible first | exact HI299.out | apply IsS25.alloc | apply IsS25.drewN | apply IsS25.drew | apply IsS25.set_1 | refine IsS25.far ?_ NB299_306.out _) | exact HI299.out)) hb); have n6_ := Aside0.mk (blk_below (g := gb306) (o := .cells #[.int .i64 t303, .int .i64 t304] 27 (0, 0)) (blk_up BK306.out) hb); have n7_ := Aside0.mk (below_step (by repeat (first | (with_reducible first | exact HB.out | apply below_alloc | apply pw_below_drewN | apply below_drew1 | refine below_set ?_ (IsS25.ge HI299.out) | refine below_set ?_ GE306.out) | exact HB.out)) hb); have n8_ := Aside0.mk (hbox); have n9_ := Aside0.mk ((by rw [hg]; exact (below_size (by repeat (first | (with_reducible first | exact HB.out | apply below_alloc | apply pw_below_drewN | apply below_drew1 | refine below_set ?_ (IsS25.ge HI299.out) | refine below_set ?_ GE306.out) | exact HB.out))) : w.heap.size ≤ gb327)); have n10_ := Aside0.mk ((by rw [hg]; exact (below_size (by repeat (first | (with_reducible first | exact HB.out | apply below_alloc | apply pw_below_drewN | apply below_drew1 | refine below_set ?_ (IsS25.ge HI299.out) | refine below_set ?_ GE306.out) | exact HB.out))) : w.heap.size ≤ gb327)); have n11_ := Aside0.mk ((by rw [hg]; exact Nat.ne_of_lt (blk_lt (g := gb306) (o := .cells #[.int .i64 t303, .int .i64 t304] 27 (0, 0)) (blk_up BK306.out)) : gb306 ≠ gb327)); have n12_ := Aside0.mk ((by rw [hg]; exact Nat.ne_of_gt (blk_lt (g := gb306) (o := .cells #[.int .i64 t303, .int .i64 t304] 27 (0, 0)) (blk_up BK306.out)) : gb327 ≠ gb306)); have n13_ := Aside0.mk ((by rw [hg]; exact Nat.ne_of_lt (IsS25.lt (show IsS25 w _ gb299 l0 t326 from by repeat (first | (with_reducible first | exact HI299.out | apply IsS25.alloc | apply IsS25.drewN | apply IsS25.drew | apply IsS25.set_1 | refine IsS25.far ?_ NB299_306.out _) | exact HI299.out))) : gb299 ≠ gb327)); have n14_ := Aside0.mk ((by rw [hg]; exact Nat.ne_of_gt (IsS25.lt (show IsS25 w _ gb299 l0 t326 from by repeat (first | (with_reducible first | exact HI299.out | apply IsS25.alloc | apply IsS25.drewN | apply IsS25.drew | apply IsS25.set_1 | refine IsS25.far ?_ NB299_306.out _) | exact HI299.out))) : gb327 ≠ gb299)); clear HO302; clear HO309; clear HO314; clear HO319; clear HO324; clear HI299; clear BK306; clear HB; have HO302 := n0_; have HO309 := n1_; have HO314 := n2_; have HO319 := n3_; have HO324 := n4_; have HI299 := n5_; have BK306 := n6_; have HB := n7_; have BK327 := n8_; have GW327 := n9_; have GE327 := n10_; have NB306_327 := n11_; have NB327_306 := n12_; have NB299_327 := n13_; have NB327_299 := n14_; clear n0_ n1_ n2_ n3_ n4_ n5_ n6_ n7_ n8_ n9_ n10_ n11_ n12_ n13_ n14_; clear hb hbox hg; have hnb30 := NB327_306.out; have hnc30 := NB306_327.out; have hnb31 := NB327_299.out; have hnc31 := NB299_327.out; have hcz32_0 : w29.cell? ⟨gb327, 0, none⟩ = some (.int .i64 0) := (blk_cell BK327.out 0).trans rfl; have hcz32_1 : w29.cell? ⟨gb327, 1, none⟩ = some (.int .i64 0) := (blk_cell BK327.out 1).trans rfl; have hfz32_0 := blk_frozen BK327.out 0; have hfz32_1 := blk_frozen BK327.out 1; have n0_ := Aside0.mk (Kd.R_mono (ok' := fun k_ => True) HO302.out (fun k_ hk => trivial)); clear HO302; have HO302 := n0_; clear n0_))
  (try simp only [Act.put, List.setIfInBounds_toArray, List.set_cons_zero, List.set_cons_succ])
  go_cut [9] (fun v9 wc => ∃ (kq : Nat) (x9_6 : Int), v9 = .int .i64 x9_6 ∧ Aside0 (pilelaw1_HoursCounted.j0 kq t300 t320 t325 x9_6 t303 t304 t310 t315 = some r) ∧ Aside0 (kq ≤ k) ∧ Aside0 (Kd.R (Kd.int .i64) 3 wc w.heap.size (fun _ => True) v301 t300) ∧ Aside0 (wc.heap[gb306]? = some (.cells #[.int .i64 t303, .int .i64 t304] 27 (0, 0))) ∧ Aside0 (wc.heap[gb327]? = some (.cells #[.int .i64 t310, .int .i64 t315] 27 (0, 0))) ∧ Aside0 (Below w.heap.size w wc))
  case first =>
    have H := HC7.out; clear HC7; replace H := Option.bind_eq_some_iff.mp H; obtain ⟨t328, A330, H⟩ := H; replace H : (pilelaw1_HoursCounted.j0 k t300 t320 t325 t328 t303 t304 t310 t315) = some r := H; have A33 := Aside0.mk A330; clear A330
    as_aux_lemma =>
      have H' := Aside0.mk H; clear H; have hnb34 := NB306_327.out; have hnc34 := NB327_306.out; have hnb35 := NB306_299.out; have hnc35 := NB299_306.out; have hcz36_0 : w29.cell? ⟨gb306, 0, none⟩ = some (.int .i64 t303) := (blk_cell BK306.out 0).trans rfl; have hcz36_1 : w29.cell? ⟨gb306, 1, none⟩ = some (.int .i64 t304) := (blk_cell BK306.out 1).trans rfl; have hfz36_0 := blk_frozen BK306.out 0; have hfz36_1 := blk_frozen BK306.out 1; obtain ⟨Ao37, co37, eo37⟩ := Kd.R_slice HO302.out; subst eo37
      go_wp2_with (first | ((with_reducible refine gate_callee (f := 8) rfl ?_); refine goesL_ (some 56) rfl rfl Try.func8 (by kernel_rfl) rfl #[.slice Ao37 t300.length co37, .agg #[.int .i64 t303, .int .i64 t304]] rfl (by (try simp only [List.map_toArray, List.map_cons, List.map_nil]); first | done | rfl | (simp only [List.length_drop, List.length_take]; rfl)) ?_; (with_reducible refine (pileref1_TimesFault.calls k _ _ t300 t303 t304 t328 _ ?side1 ?side2 A33.out).mono ?_); (case side1 => refine (Kd.R_reads' (e := 3) (base := w.heap.size) (ok := fun k_ => True) (n := t300.length) (c := co37) ?_).2.2; exact (by (with_reducible repeat (first | apply Kd.R_alloc | apply Kd.R_drewN | apply Kd.R_drew)); exact (Kd.R_mono (Kd.R_far (p := ⟨gb327, 1, none⟩) (Kd.R_far (p := ⟨gb327, 0, none⟩) (Kd.R_types HO302.out BK327.out (by decide)) (fun _ hk => hk.2) (.int .i64 t310)) (fun _ hk => hk.2) (.int .i64 t315)) (fun _ h_ => h_.1)))); (case side2 => exact (Kd.R_reads' HO302.out).2.1); rintro e w38 ⟨rfl, hb⟩; refine ⟨_, rfl, ?_⟩; have n0_ := Aside0.mk (Kd.R_below (by (with_reducible repeat (first | apply Kd.R_alloc | apply Kd.R_drewN | apply Kd.R_drew)); exact (Kd.R_mono (Kd.R_far (p := ⟨gb327, 1, none⟩) (Kd.R_far (p := ⟨gb327, 0, none⟩) (Kd.R_types HO302.out BK327.out (by decide)) (fun _ hk => hk.2) (.int .i64 t310)) (fun _ hk => hk.2) (.int .i64 t315)) (fun _ h_ => h_.1))) hb); have n1_ := Aside0.mk (IsS25.below (show IsS25 w ((w29.setCell ⟨gb327, 0, none⟩ (.int .i64 t310)).setCell ⟨gb327, 1, none⟩ (.int .i64 t315)) gb299 l0 t326 from by repeat (first | (with_reducible first | exact HI299.out | apply IsS25.alloc | apply IsS25.drewN | apply IsS25.drew | apply IsS25.set_1 | refine IsS25.far ?_ NB299_306.out _ | refine IsS25.far ?_ NB299_327.out _) | exact HI299.out)) hb); have n2_ := Aside0.mk (blk_below (g := gb306) (o := .cells #[.int .i64 t303, .int .i64 t304] 27 (0, 0)) (by (with_reducible repeat (first | refine blk_drewN ?_ _ | refine blk_drew ?_ | refine blk_alloc ?_ _)); refine blk_far ?_ NB306_327.out _; (with_reducible repeat (first | refine blk_drewN ?_ _ | refine blk_drew ?_ | refine blk_alloc ?_ _)); refine blk_far ?_ NB306_327.out _; (with_reducible repeat (first | refine blk_drewN ?_ _ | refine blk_drew ?_ | refine blk_alloc ?_ _)); exact BK306.out) hb); have n3_ := Aside0.mk (blk_below (g := gb327) (o := .cells #[.int .i64 t310, .int .i64 t315] 27 (0, 0)) (by (with_reducible repeat (first | refine blk_drewN ?_ _ | refine blk_drew ?_ | refine blk_alloc ?_ _)); refine blk_put (cs := #[.int .i64 t310, .int .i64 0]) ?_ 1 _ rfl; (with_reducible repeat (first | refine blk_drewN ?_ _ | refine blk_drew ?_ | refine blk_alloc ?_ _)); refine blk_put (cs := #[.int .i64 0, .int .i64 0]) ?_ 0 _ rfl; (with_reducible repeat (first | refine blk_drewN ?_ _ | refine blk_drew ?_ | refine blk_alloc ?_ _)); exact BK327.out) hb); have n4_ := Aside0.mk (below_step (by repeat (first | (with_reducible first | exact HB.out | apply below_alloc | apply pw_below_drewN | apply below_drew1 | refine below_set ?_ (IsS25.ge HI299.out) | refine below_set ?_ GE306.out | refine below_set ?_ GE327.out) | exact HB.out)) hb); clear HO302; clear HI299; clear BK306; clear BK327; clear HB; have HO302 := n0_; have HI299 := n1_; have BK306 := n2_; have BK327 := n3_; have HB := n4_; clear n0_ n1_ n2_ n3_ n4_; (try clear hb); (try clear hb2); (try clear hk); (try clear hi)))
      go_meet
      case rel => exact ⟨_, (t328), (by first | rfl | (simp; done) | (simp [*]; done)), H', ⟨by first | omega | exact Nat.le_refl _⟩, ⟨by (with_reducible repeat (first | apply Kd.R_alloc | apply Kd.R_drewN | apply Kd.R_drew)); exact HO302.out⟩, ⟨by (with_reducible repeat (first | refine blk_drewN ?_ _ | refine blk_drew ?_ | refine blk_alloc ?_ _)); exact BK306.out⟩, ⟨by (with_reducible repeat (first | refine blk_drewN ?_ _ | refine blk_drew ?_ | refine blk_alloc ?_ _)); exact BK327.out⟩, ⟨by repeat (first | (with_reducible first | exact HB.out | apply below_alloc | apply pw_below_drewN | apply below_drew1 | refine below_set ?_ (IsS25.ge HI299.out) | refine below_set ?_ GE306.out | refine below_set ?_ GE327.out) | exact HB.out)⟩⟩
  case rest =>
    as_aux_lemma =>
      clear HC7
      try clear c1
      try clear p2
      try clear c3
      try clear c6
      try clear c7
      try clear c8
      try clear c11
      try clear c30
      try clear c31
      try clear c34
      try clear c35
      try clear hcz12_0
      try clear hcz12_1
      try clear hcz32_0
      try clear hcz32_1
      try clear hcz36_0
      try clear hcz36_1
      try clear hfz12_0
      try clear hfz12_1
      try clear hfz32_0
      try clear hfz32_1
      try clear hfz36_0
      try clear hfz36_1
      obtain ⟨kq, x9_6, rfl, HA, HJ6, HO_4, BK306, BK327, HB⟩ := hcut
      cases kq with
      | zero => exact absurd HA.out (by simp [pilelaw1_HoursCounted.j0])
      | succ kj6 =>
        have H := HA.out; clear HA
        simp only [pilelaw1_HoursCounted.j0] at H
        replace H := Option.bind_eq_some_iff.mp H; obtain ⟨t329, A390, H⟩ := H; (replace H : (if t329 = x9_6 then ((rate_Hours.f kj6 t300 t303 t304).bind fun bt330 => ((rate_In.f kj6 t300 t303 t304 t310 t315).bind fun bt334 => ((rate_Rate.f kj6 t300 t303 t304 t320 t325).bind fun bt336 => ((rate_Best.f kj6 t300 t303 t304 t325).bind fun bt341 => ((rate_Gap.f kj6 t300 t303 t304).bind fun bt344 => (if x9_6 = 0 then ((pileref1_HoursFault.f t303 t304).bind fun t348 => ((pileref1_WindowFault.f kj6 t310 t315).bind fun t349 => ((pileref1_MomentFault.f t320).bind fun t350 => ((pileref1_LongFault.f t325).bind fun t351 => ((api_Errno.f kj6 (([t350, t351] : List Int))).bind fun t355 => ((pileref1_LongFault.f t325).bind fun t356 => (pilelaw1_HoursCounted.j1 kj6 t300 t320 t325 x9_6 bt330.1 bt330.2 bt334.1 bt334.2 bt336.2.2.1 bt336.2.2.2 bt341.1 bt341.2.1 bt341.2.2 bt344.2.2 t348 t349 t355 t356 t303 t304 t310 t315 bt336.1 bt336.2.1 bt344.1 bt344.2.1))))))) else (pilelaw1_HoursCounted.j1 kj6 t300 t320 t325 x9_6 bt330.1 bt330.2 bt334.1 bt334.2 bt336.2.2.1 bt336.2.2.2 bt341.1 bt341.2.1 bt341.2.2 bt344.2.2 x9_6 x9_6 x9_6 x9_6 t303 t304 t310 t315 bt336.1 bt336.2.1 bt344.1 bt344.2.1))))))) else (some false)) = some r := H); have A39 := Aside0.mk A390; clear A390
        by_cases c40 : t329 = x9_6
        · rw [if_pos c40] at H
          have c40b0 : (t329 == x9_6) = true := beq_iff_eq.mpr c40; have c40b1 : (t329 != x9_6) = false := bne_eq_false_iff_eq.mpr c40; clear c40; replace H := Option.bind_eq_some_iff.mp H; obtain ⟨⟨t330, t333⟩, A410, H⟩ := H; (replace H : ((rate_In.f kj6 t300 t303 t304 t310 t315).bind fun bt334 => ((rate_Rate.f kj6 t300 t303 t304 t320 t325).bind fun bt336 => ((rate_Best.f kj6 t300 t303 t304 t325).bind fun bt341 => ((rate_Gap.f kj6 t300 t303 t304).bind fun bt344 => (if x9_6 = 0 then ((pileref1_HoursFault.f t303 t304).bind fun t348 => ((pileref1_WindowFault.f kj6 t310 t315).bind fun t349 => ((pileref1_MomentFault.f t320).bind fun t350 => ((pileref1_LongFault.f t325).bind fun t351 => ((api_Errno.f kj6 (([t350, t351] : List Int))).bind fun t355 => ((pileref1_LongFault.f t325).bind fun t356 => (pilelaw1_HoursCounted.j1 kj6 t300 t320 t325 x9_6 t330 t333 bt334.1 bt334.2 bt336.2.2.1 bt336.2.2.2 bt341.1 bt341.2.1 bt341.2.2 bt344.2.2 t348 t349 t355 t356 t303 t304 t310 t315 bt336.1 bt336.2.1 bt344.1 bt344.2.1))))))) else (pilelaw1_HoursCounted.j1 kj6 t300 t320 t325 x9_6 t330 t333 bt334.1 bt334.2 bt336.2.2.1 bt336.2.2.2 bt341.1 bt341.2.1 bt341.2.2 bt344.2.2 x9_6 x9_6 x9_6 x9_6 t303 t304 t310 t315 bt336.1 bt336.2.1 bt344.1 bt344.2.1)))))) = some r := H); have A41 := Aside0.mk A410; clear A410; replace H := Option.bind_eq_some_iff.mp H; obtain ⟨⟨t334, t335⟩, A420, H⟩ := H; (replace H : ((rate_Rate.f kj6 t300 t303 t304 t320 t325).bind fun bt336 => ((rate_Best.f kj6 t300 t303 t304 t325).bind fun bt341 => ((rate_Gap.f kj6 t300 t303 t304).bind fun bt344 => (if x9_6 = 0 then ((pileref1_HoursFault.f t303 t304).bind fun t348 => ((pileref1_WindowFault.f kj6 t310 t315).bind fun t349 => ((pileref1_MomentFault.f t320).bind fun t350 => ((pileref1_LongFault.f t325).bind fun t351 => ((api_Errno.f kj6 (([t350, t351] : List Int))).bind fun t355 => ((pileref1_LongFault.f t325).bind fun t356 => (pilelaw1_HoursCounted.j1 kj6 t300 t320 t325 x9_6 t330 t333 t334 t335 bt336.2.2.1 bt336.2.2.2 bt341.1 bt341.2.1 bt341.2.2 bt344.2.2 t348 t349 t355 t356 t303 t304 t310 t315 bt336.1 bt336.2.1 bt344.1 bt344.2.1))))))) else (pilelaw1_HoursCounted.j1 kj6 t300 t320 t325 x9_6 t330 t333 t334 t335 bt336.2.2.1 bt336.2.2.2 bt341.1 bt341.2.1 bt341.2.2 bt344.2.2 x9_6 x9_6 x9_6 x9_6 t303 t304 t310 t315 bt336.1 bt336.2.1 bt344.1 bt344.2.1))))) = some r := H); have A42 := Aside0.mk A420; clear A420; replace H := Option.bind_eq_some_iff.mp H; obtain ⟨⟨t336, t337, t338, t339⟩, A430, H⟩ := H; (replace H : ((rate_Best.f kj6 t300 t303 t304 t325).bind fun bt341 => ((rate_Gap.f kj6 t300 t303 t304).bind fun bt344 => (if x9_6 = 0 then ((pileref1_HoursFault.f t303 t304).bind fun t348 => ((pileref1_WindowFault.f kj6 t310 t315).bind fun t349 => ((pileref1_MomentFault.f t320).bind fun t350 => ((pileref1_LongFault.f t325).bind fun t351 => ((api_Errno.f kj6 (([t350, t351] : List Int))).bind fun t355 => ((pileref1_LongFault.f t325).bind fun t356 => (pilelaw1_HoursCounted.j1 kj6 t300 t320 t325 x9_6 t330 t333 t334 t335 t338 t339 bt341.1 bt341.2.1 bt341.2.2 bt344.2.2 t348 t349 t355 t356 t303 t304 t310 t315 t336 t337 bt344.1 bt344.2.1))))))) else (pilelaw1_HoursCounted.j1 kj6 t300 t320 t325 x9_6 t330 t333 t334 t335 t338 t339 bt341.1 bt341.2.1 bt341.2.2 bt344.2.2 x9_6 x9_6 x9_6 x9_6 t303 t304 t310 t315 t336 t337 bt344.1 bt344.2.1)))) = some r := H); have A43 := Aside0.mk A430; clear A430; replace H := Option.bind_eq_some_iff.mp H; obtain ⟨⟨t341, t342, t343⟩, A440, H⟩ := H; (replace H : ((rate_Gap.f kj6 t300 t303 t304).bind fun bt344 => (if x9_6 = 0 then ((pileref1_HoursFault.f t303 t304).bind fun t348 => ((pileref1_WindowFault.f kj6 t310 t315).bind fun t349 => ((pileref1_MomentFault.f t320).bind fun t350 => ((pileref1_LongFault.f t325).bind fun t351 => ((api_Errno.f kj6 (([t350, t351] : List Int))).bind fun t355 => ((pileref1_LongFault.f t325).bind fun t356 => (pilelaw1_HoursCounted.j1 kj6 t300 t320 t325 x9_6 t330 t333 t334 t335 t338 t339 t341 t342 t343 bt344.2.2 t348 t349 t355 t356 t303 t304 t310 t315 t336 t337 bt344.1 bt344.2.1))))))) else (pilelaw1_HoursCounted.j1 kj6 t300 t320 t325 x9_6 t330 t333 t334 t335 t338 t339 t341 t342 t343 bt344.2.2 x9_6 x9_6 x9_6 x9_6 t303 t304 t310 t315 t336 t337 bt344.1 bt344.2.1))) = some r := H); have A44 := Aside0.mk A440; clear A440; replace H := Option.bind_eq_some_iff.mp H; obtain ⟨⟨t344, t345, t346⟩, A450, H⟩ := H; (replace H : (if x9_6 = 0 then ((pileref1_HoursFault.f t303 t304).bind fun t348 => ((pileref1_WindowFault.f kj6 t310 t315).bind fun t349 => ((pileref1_MomentFault.f t320).bind fun t350 => ((pileref1_LongFault.f t325).bind fun t351 => ((api_Errno.f kj6 (([t350, t351] : List Int))).bind fun t355 => ((pileref1_LongFault.f t325).bind fun t356 => (pilelaw1_HoursCounted.j1 kj6 t300 t320 t325 x9_6 t330 t333 t334 t335 t338 t339 t341 t342 t343 t346 t348 t349 t355 t356 t303 t304 t310 t315 t336 t337 t344 t345))))))) else (pilelaw1_HoursCounted.j1 kj6 t300 t320 t325 x9_6 t330 t333 t334 t335 t338 t339 t341 t342 t343 t346 x9_6 x9_6 x9_6 x9_6 t303 t304 t310 t315 t336 t337 t344 t345)) = some r := H); have A45 := Aside0.mk A450; clear A450; have HC46 := Aside0.mk H; clear H; have hnb47 := NB306_327.out; have hnc47 := NB327_306.out; have hcz48_0 : wc.cell? ⟨gb306, 0, none⟩ = some (.int .i64 t303) := (blk_cell BK306.out 0).trans rfl; have hcz48_1 : wc.cell? ⟨gb306, 1, none⟩ = some (.int .i64 t304) := (blk_cell BK306.out 1).trans rfl; have hfz48_0 := blk_frozen BK306.out 0; have hfz48_1 := blk_frozen BK306.out 1; obtain ⟨Ao49, co49, eo49⟩ := Kd.R_slice HO_4.out; subst eo49
          go_upto_if 103 with (first | ((with_reducible refine gate_callee (f := 9) rfl ?_); refine goesL_ (some 59) rfl rfl Try.func9 (by kernel_rfl) rfl #[.slice Ao49 t300.length co49, .agg #[.int .i64 t303, .int .i64 t304]] rfl (by (try simp only [List.map_toArray, List.map_cons, List.map_nil]); first | done | rfl | (simp only [List.length_drop, List.length_take]; rfl)) ?_; (with_reducible refine (rate_CheckTimes.calls kj6 _ _ t300 t303 t304 t329 _ ?side1 ?side2 A39.out).mono ?_); (case side1 => repeat (first | exact (Kd.R_reads' HO_4.out).2.2 | (with_reducible refine Kd.C_alloc ?_ _) | (with_reducible refine Kd.C_drewN ?_ _) | (with_reducible refine Kd.C_drew ?_))); (case side2 => exact (Kd.R_reads' HO_4.out).2.1); rintro e w50 ⟨rfl, hb⟩; refine ⟨_, rfl, ?_⟩; have n0_ := Aside0.mk (Kd.R_below (Kd.R_up HO_4.out) hb); have n1_ := Aside0.mk (blk_below (g := gb306) (o := .cells #[.int .i64 t303, .int .i64 t304] 27 (0, 0)) (blk_up BK306.out) hb); have n2_ := Aside0.mk (blk_below (g := gb327) (o := .cells #[.int .i64 t310, .int .i64 t315] 27 (0, 0)) (blk_up BK327.out) hb); have n3_ := Aside0.mk (below_step (by repeat (first | (with_reducible first | exact HB.out | apply below_alloc | apply pw_below_drewN | apply below_drew1 | refine below_set ?_ GE306.out | refine below_set ?_ GE327.out) | exact HB.out)) hb); clear HO_4; clear BK306; clear BK327; clear HB; have HO_4 := n0_; have BK306 := n1_; have BK327 := n2_; have HB := n3_; clear n0_ n1_ n2_ n3_; (try clear hb); (try clear hb2); (try clear hk); (try clear hi); have hcz51_0 : w50.cell? ⟨gb306, 0, none⟩ = some (.int .i64 t303) := (blk_cell BK306.out 0).trans rfl; have hcz51_1 : w50.cell? ⟨gb306, 1, none⟩ = some (.int .i64 t304) := (blk_cell BK306.out 1).trans rfl; have hfz51_0 := blk_frozen BK306.out 0; have hfz51_1 := blk_frozen BK306.out 1) | ((with_reducible refine gate_callee (f := 10) rfl ?_); refine goesL_ (some 65) rfl rfl Try.func10 (by kernel_rfl) rfl #[.slice Ao49 t300.length co49, .agg #[.int .i64 t303, .int .i64 t304]] rfl (by (try simp only [List.map_toArray, List.map_cons, List.map_nil]); first | done | rfl | (simp only [List.length_drop, List.length_take]; rfl)) ?_; (with_reducible refine (rate_Hours.calls kj6 _ _ t300 t303 t304 t330 t333 _ ?side1 ?side2 A41.out).mono ?_); (case side1 => repeat (first | exact (Kd.R_reads' HO_4.out).2.2 | (with_reducible refine Kd.C_alloc ?_ _) | (with_reducible refine Kd.C_drewN ?_ _) | (with_reducible refine Kd.C_drew ?_))); (case side2 => exact (Kd.R_reads' HO_4.out).2.1); rintro e w52 ⟨v331, rfl, ho0, hb⟩; refine ⟨_, rfl, ?_⟩; have n0_ := Aside0.mk (Kd.R_elder' (Kd.R_up HO_4.out) (Kd.R_base ho0) hb); have n1_ := Aside0.mk (Kd.R_lower (Kd.R_new' ho0 (Kd.R_lt (Kd.R_up HO_4.out))) (below_size (by repeat (first | (with_reducible first | exact HB.out | apply below_alloc | apply pw_below_drewN | apply below_drew1 | refine below_set ?_ GE306.out | refine below_set ?_ GE327.out) | exact HB.out)))); have n2_ := Aside0.mk (blk_below (g := gb306) (o := .cells #[.int .i64 t303, .int .i64 t304] 27 (0, 0)) (blk_up BK306.out) hb); have n3_ := Aside0.mk (blk_below (g := gb327) (o := .cells #[.int .i64 t310, .int .i64 t315] 27 (0, 0)) (blk_up BK327.out) hb); have n4_ := Aside0.mk (below_step (by repeat (first | (with_reducible first | exact HB.out | apply below_alloc | apply pw_below_drewN | apply below_drew1 | refine below_set ?_ GE306.out | refine below_set ?_ GE327.out) | exact HB.out)) hb); clear HO_4; clear BK306; clear BK327; clear HB; have HO_4 := n0_; have HO332 := n1_; have BK306 := n2_; have BK327 := n3_; have HB := n4_; clear n0_ n1_ n2_ n3_ n4_; (try clear hb); (try clear hb2); (try clear hk); (try clear hi); (try clear ho0); have hcz53_0 : w52.cell? ⟨gb306, 0, none⟩ = some (.int .i64 t303) := (blk_cell BK306.out 0).trans rfl; have hcz53_1 : w52.cell? ⟨gb306, 1, none⟩ = some (.int .i64 t304) := (blk_cell BK306.out 1).trans rfl; have hfz53_0 := blk_frozen BK306.out 0; have hfz53_1 := blk_frozen BK306.out 1; have hcz54_0 : w52.cell? ⟨gb327, 0, none⟩ = some (.int .i64 t310) := (blk_cell BK327.out 0).trans rfl; have hcz54_1 : w52.cell? ⟨gb327, 1, none⟩ = some (.int .i64 t315) := (blk_cell BK327.out 1).trans rfl; have hfz54_0 := blk_frozen BK327.out 0; have hfz54_1 := blk_frozen BK327.out 1) | ((with_reducible refine gate_callee (f := 11) rfl ?_); refine goesL_ (some 72) rfl rfl Try.func11 (by kernel_rfl) rfl #[.slice Ao49 t300.length co49, .agg #[.int .i64 t303, .int .i64 t304], .agg #[.int .i64 t310, .int .i64 t315]] rfl (by (try simp only [List.map_toArray, List.map_cons, List.map_nil]); first | done | rfl | (simp only [List.length_drop, List.length_take]; rfl)) ?_; (with_reducible refine (rate_In.calls kj6 _ _ t300 t303 t304 t310 t315 t334 t335 _ ?side1 ?side2 A42.out).mono ?_); (case side1 => repeat (first | exact (Kd.R_reads' HO_4.out).2.2 | (with_reducible refine Kd.C_alloc ?_ _) | (with_reducible refine Kd.C_drewN ?_ _) | (with_reducible refine Kd.C_drew ?_))); (case side2 => exact (Kd.R_reads' HO_4.out).2.1); rintro e w55 ⟨rfl, hb⟩; refine ⟨_, rfl, ?_⟩; have n0_ := Aside0.mk (Kd.R_below (Kd.R_up HO_4.out) hb); have n1_ := Aside0.mk (Kd.R_below (Kd.R_up HO332.out) hb); have n2_ := Aside0.mk (blk_below (g := gb306) (o := .cells #[.int .i64 t303, .int .i64 t304] 27 (0, 0)) (blk_up BK306.out) hb); have n3_ := Aside0.mk (blk_below (g := gb327) (o := .cells #[.int .i64 t310, .int .i64 t315] 27 (0, 0)) (blk_up BK327.out) hb); have n4_ := Aside0.mk (below_step (by repeat (first | (with_reducible first | exact HB.out | apply below_alloc | apply pw_below_drewN | apply below_drew1 | refine below_set ?_ GE306.out | refine below_set ?_ GE327.out) | exact HB.out)) hb); clear HO_4; clear HO332; clear BK306; clear BK327; clear HB; have HO_4 := n0_; have HO332 := n1_; have BK306 := n2_; have BK327 := n3_; have HB := n4_; clear n0_ n1_ n2_ n3_ n4_; (try clear hb); (try clear hb2); (try clear hk); (try clear hi); have hcz56_0 : w55.cell? ⟨gb306, 0, none⟩ = some (.int .i64 t303) := (blk_cell BK306.out 0).trans rfl; have hcz56_1 : w55.cell? ⟨gb306, 1, none⟩ = some (.int .i64 t304) := (blk_cell BK306.out 1).trans rfl; have hfz56_0 := blk_frozen BK306.out 0; have hfz56_1 := blk_frozen BK306.out 1) | ((with_reducible refine gate_callee (f := 12) rfl ?_); refine goesL_ (some 80) rfl rfl Try.func12 (by kernel_rfl) rfl #[.slice Ao49 t300.length co49, .agg #[.int .i64 t303, .int .i64 t304], .int .i64 t320, .int .i64 t325] rfl (by (try simp only [List.map_toArray, List.map_cons, List.map_nil]); first | done | rfl | (simp only [List.length_drop, List.length_take]; rfl)) ?_; (with_reducible refine (rate_Rate.calls kj6 _ _ t300 t303 t304 t320 t325 t336 t337 t338 t339 _ ?side1 ?side2 A43.out).mono ?_); (case side1 => repeat (first | exact (Kd.R_reads' HO_4.out).2.2 | (with_reducible refine Kd.C_alloc ?_ _) | (with_reducible refine Kd.C_drewN ?_ _) | (with_reducible refine Kd.C_drew ?_))); (case side2 => exact (Kd.R_reads' HO_4.out).2.1); rintro e w57 ⟨rfl, hb⟩; refine ⟨_, rfl, ?_⟩; have n0_ := Aside0.mk (Kd.R_below (Kd.R_up HO_4.out) hb); have n1_ := Aside0.mk (Kd.R_below (Kd.R_up HO332.out) hb); have n2_ := Aside0.mk (blk_below (g := gb306) (o := .cells #[.int .i64 t303, .int .i64 t304] 27 (0, 0)) (blk_up BK306.out) hb); have n3_ := Aside0.mk (blk_below (g := gb327) (o := .cells #[.int .i64 t310, .int .i64 t315] 27 (0, 0)) (blk_up BK327.out) hb); have n4_ := Aside0.mk (below_step (by repeat (first | (with_reducible first | exact HB.out | apply below_alloc | apply pw_below_drewN | apply below_drew1 | refine below_set ?_ GE306.out | refine below_set ?_ GE327.out) | exact HB.out)) hb); clear HO_4; clear HO332; clear BK306; clear BK327; clear HB; have HO_4 := n0_; have HO332 := n1_; have BK306 := n2_; have BK327 := n3_; have HB := n4_; clear n0_ n1_ n2_ n3_ n4_; (try clear hb); (try clear hb2); (try clear hk); (try clear hi)) | ((with_reducible refine gate_dst (N := 14) rfl ?_); refine box_event ?hg (N := 14) ?hd (cs := #[.int .i64 0, .int .i64 0]) (t := 38) ?hr ?_; (case hd => rfl); (case hg => rfl); (case hr => first | (go_simp; done) | (go_simp; rfl)); intro gb340 hg w58 hbox hb; have n0_ := Aside0.mk (Kd.R_below (Kd.R_up HO_4.out) hb); have n1_ := Aside0.mk (Kd.R_below (Kd.R_up HO332.out) hb); have n2_ := Aside0.mk (blk_below (g := gb306) (o := .cells #[.int .i64 t303, .int .i64 t304] 27 (0, 0)) (blk_up BK306.out) hb); have n3_ := Aside0.mk (blk_below (g := gb327) (o := .cells #[.int .i64 t310, .int .i64 t315] 27 (0, 0)) (blk_up BK327.out) hb); have n4_ := Aside0.mk (below_step (by repeat (first | (with_reducible first | exact HB.out | apply below_alloc | apply pw_below_drewN | apply below_drew1 | refine below_set ?_ GE306.out | refine below_set ?_ GE327.out) | exact HB.out)) hb); have n5_ := Aside0.mk (hbox); have n6_ := Aside0.mk ((by rw [hg]; exact (below_size (by repeat (first | (with_reducible first | exact HB.out | apply below_alloc | apply pw_below_drewN | apply below_drew1 | refine below_set ?_ GE306.out | refine below_set ?_ GE327.out) | exact HB.out))) : w.heap.size ≤ gb340)); have n7_ := Aside0.mk ((by rw [hg]; exact (below_size (by repeat (first | (with_reducible first | exact HB.out | apply below_alloc | apply pw_below_drewN | apply below_drew1 | refine below_set ?_ GE306.out | refine below_set ?_ GE327.out) | exact HB.out))) : w.heap.size ≤ gb340)); have n8_ := Aside0.mk ((by rw [hg]; exact Nat.ne_of_lt (blk_lt (g := gb306) (o := .cells #[.int .i64 t303, .int .i64 t304] 27 (0, 0)) (blk_up BK306.out)) : gb306 ≠ gb340)); have n9_ := Aside0.mk ((by rw [hg]; exact Nat.ne_of_gt (blk_lt (g := gb306) (o := .cells #[.int .i64 t303, .int .i64 t304] 27 (0, 0)) (blk_up BK306.out)) : gb340 ≠ gb306)); have n10_ := Aside0.mk ((by rw [hg]; exact Nat.ne_of_lt (blk_lt (g := gb327) (o := .cells #[.int .i64 t310, .int .i64 t315] 27 (0, 0)) (blk_up BK327.out)) : gb327 ≠ gb340)); have n11_ := Aside0.mk ((by rw [hg]; exact Nat.ne_of_gt (blk_lt (g := gb327) (o := .cells #[.int .i64 t310, .int .i64 t315] 27 (0, 0)) (blk_up BK327.out)) : gb340 ≠ gb327)); clear HO_4; clear HO332; clear BK306; clear BK327; clear HB; have HO_4 := n0_; have HO332 := n1_; have BK306 := n2_; have BK327 := n3_; have HB := n4_; have BK340 := n5_; have GW340 := n6_; have GE340 := n7_; have NB306_340 := n8_; have NB340_306 := n9_; have NB327_340 := n10_; have NB340_327 := n11_; clear n0_ n1_ n2_ n3_ n4_ n5_ n6_ n7_ n8_ n9_ n10_ n11_; clear hb hbox hg; have hnb59 := NB340_306.out; have hnc59 := NB306_340.out; have hnb60 := NB340_327.out; have hnc60 := NB327_340.out; have hcz61_0 : w58.cell? ⟨gb340, 0, none⟩ = some (.int .i64 0) := (blk_cell BK340.out 0).trans rfl; have hcz61_1 : w58.cell? ⟨gb340, 1, none⟩ = some (.int .i64 0) := (blk_cell BK340.out 1).trans rfl; have hfz61_0 := blk_frozen BK340.out 0; have hfz61_1 := blk_frozen BK340.out 1; have hcz62_0 : w58.cell? ⟨gb306, 0, none⟩ = some (.int .i64 t303) := (blk_cell BK306.out 0).trans rfl; have hcz62_1 : w58.cell? ⟨gb306, 1, none⟩ = some (.int .i64 t304) := (blk_cell BK306.out 1).trans rfl; have hfz62_0 := blk_frozen BK306.out 0; have hfz62_1 := blk_frozen BK306.out 1) | ((with_reducible refine gate_callee (f := 13) rfl ?_); refine goesL_ (some 88) rfl rfl Try.func13 (by kernel_rfl) rfl #[.slice Ao49 t300.length co49, .agg #[.int .i64 t303, .int .i64 t304], .int .i64 t325] rfl (by (try simp only [List.map_toArray, List.map_cons, List.map_nil]); first | done | rfl | (simp only [List.length_drop, List.length_take]; rfl)) ?_; (with_reducible refine (rate_Best.calls kj6 _ _ t300 t303 t304 t325 t341 t342 t343 _ ?side1 ?side2 A44.out).mono ?_); (case side1 => refine (Kd.R_reads' (e := 3) (base := w.heap.size) (ok := fun k_ => (True ∧ some k_ ≠ (v331 : Value).ownBlock)) (n := t300.length) (c := co49) ?_).2.2; exact (by (with_reducible repeat (first | apply Kd.R_alloc | apply Kd.R_drewN | apply Kd.R_drew)); exact (Kd.R_mono (Kd.R_far (p := ⟨gb340, 1, none⟩) (Kd.R_far (p := ⟨gb340, 0, none⟩) (Kd.R_types HO_4.out BK340.out (by decide)) (fun _ hk => hk.2) (.int .i64 t336)) (fun _ hk => hk.2) (.int .i64 t337)) (fun _ h_ => h_.1)))); (case side2 => exact (Kd.R_reads' HO_4.out).2.1); rintro e w63 ⟨rfl, hb⟩; refine ⟨_, rfl, ?_⟩; have n0_ := Aside0.mk (Kd.R_below (by (with_reducible repeat (first | apply Kd.R_alloc | apply Kd.R_drewN | apply Kd.R_drew)); exact (Kd.R_mono (Kd.R_far (p := ⟨gb340, 1, none⟩) (Kd.R_far (p := ⟨gb340, 0, none⟩) (Kd.R_types HO_4.out BK340.out (by decide)) (fun _ hk => hk.2) (.int .i64 t336)) (fun _ hk => hk.2) (.int .i64 t337)) (fun _ h_ => h_.1))) hb); have n1_ := Aside0.mk (Kd.R_below (by (with_reducible repeat (first | apply Kd.R_alloc | apply Kd.R_drewN | apply Kd.R_drew)); exact (Kd.R_mono (Kd.R_far (p := ⟨gb340, 1, none⟩) (Kd.R_far (p := ⟨gb340, 0, none⟩) (Kd.R_types HO332.out BK340.out (by decide)) (fun _ hk => hk.2) (.int .i64 t336)) (fun _ hk => hk.2) (.int .i64 t337)) (fun _ h_ => h_.1))) hb); have n2_ := Aside0.mk (blk_below (g := gb306) (o := .cells #[.int .i64 t303, .int .i64 t304] 27 (0, 0)) (by (with_reducible repeat (first | refine blk_drewN ?_ _ | refine blk_drew ?_ | refine blk_alloc ?_ _)); refine blk_far ?_ NB306_340.out _; (with_reducible repeat (first | refine blk_drewN ?_ _ | refine blk_drew ?_ | refine blk_alloc ?_ _)); refine blk_far ?_ NB306_340.out _; (with_reducible repeat (first | refine blk_drewN ?_ _ | refine blk_drew ?_ | refine blk_alloc ?_ _)); exact BK306.out) hb); have n3_ := Aside0.mk (blk_below (g := gb327) (o := .cells #[.int .i64 t310, .int .i64 t315] 27 (0, 0)) (by (with_reducible repeat (first | refine blk_drewN ?_ _ | refine blk_drew ?_ | refine blk_alloc ?_ _)); refine blk_far ?_ NB327_340.out _; (with_reducible repeat (first | refine blk_drewN ?_ _ | refine blk_drew ?_ | refine blk_alloc ?_ _)); refine blk_far ?_ NB327_340.out _; (with_reducible repeat (first | refine blk_drewN ?_ _ | refine blk_drew ?_ | refine blk_alloc ?_ _)); exact BK327.out) hb); have n4_ := Aside0.mk (blk_below (g := gb340) (o := .cells #[.int .i64 t336, .int .i64 t337] 38 (0, 0)) (by (with_reducible repeat (first | refine blk_drewN ?_ _ | refine blk_drew ?_ | refine blk_alloc ?_ _)); refine blk_put (cs := #[.int .i64 t336, .int .i64 0]) ?_ 1 _ rfl; (with_reducible repeat (first | refine blk_drewN ?_ _ | refine blk_drew ?_ | refine blk_alloc ?_ _)); refine blk_put (cs := #[.int .i64 0, .int .i64 0]) ?_ 0 _ rfl; (with_reducible repeat (first | refine blk_drewN ?_ _ | refine blk_drew ?_ | refine blk_alloc ?_ _)); exact BK340.out) hb); have n5_ := Aside0.mk (below_step (by repeat (first | (with_reducible first | exact HB.out | apply below_alloc | apply pw_below_drewN | apply below_drew1 | refine below_set ?_ GE306.out | refine below_set ?_ GE327.out | refine below_set ?_ GE340.out) | exact HB.out)) hb); clear HO_4; clear HO332; clear BK306; clear BK327; clear BK340; clear HB; have HO_4 := n0_; have HO332 := n1_; have BK306 := n2_; have BK327 := n3_; have BK340 := n4_; have HB := n5_; clear n0_ n1_ n2_ n3_ n4_ n5_; (try clear hb); (try clear hb2); (try clear hk); (try clear hi); have hcz64_0 : w63.cell? ⟨gb306, 0, none⟩ = some (.int .i64 t303) := (blk_cell BK306.out 0).trans rfl; have hcz64_1 : w63.cell? ⟨gb306, 1, none⟩ = some (.int .i64 t304) := (blk_cell BK306.out 1).trans rfl; have hfz64_0 := blk_frozen BK306.out 0; have hfz64_1 := blk_frozen BK306.out 1) | ((with_reducible refine gate_callee (f := 14) rfl ?_); refine goesL_ (some 95) rfl rfl Try.func14 (by kernel_rfl) rfl #[.slice Ao49 t300.length co49, .agg #[.int .i64 t303, .int .i64 t304]] rfl (by (try simp only [List.map_toArray, List.map_cons, List.map_nil]); first | done | rfl | (simp only [List.length_drop, List.length_take]; rfl)) ?_; (with_reducible refine (rate_Gap.calls kj6 _ _ t300 t303 t304 t344 t345 t346 _ ?side1 ?side2 A45.out).mono ?_); (case side1 => repeat (first | exact (Kd.R_reads' HO_4.out).2.2 | (with_reducible refine Kd.C_alloc ?_ _) | (with_reducible refine Kd.C_drewN ?_ _) | (with_reducible refine Kd.C_drew ?_))); (case side2 => exact (Kd.R_reads' HO_4.out).2.1); rintro e w65 ⟨rfl, hb⟩; refine ⟨_, rfl, ?_⟩; have n0_ := Aside0.mk (Kd.R_below (Kd.R_up HO_4.out) hb); have n1_ := Aside0.mk (Kd.R_below (Kd.R_up HO332.out) hb); have n2_ := Aside0.mk (blk_below (g := gb306) (o := .cells #[.int .i64 t303, .int .i64 t304] 27 (0, 0)) (blk_up BK306.out) hb); have n3_ := Aside0.mk (blk_below (g := gb327) (o := .cells #[.int .i64 t310, .int .i64 t315] 27 (0, 0)) (blk_up BK327.out) hb); have n4_ := Aside0.mk (blk_below (g := gb340) (o := .cells #[.int .i64 t336, .int .i64 t337] 38 (0, 0)) (blk_up BK340.out) hb); have n5_ := Aside0.mk (below_step (by repeat (first | (with_reducible first | exact HB.out | apply below_alloc | apply pw_below_drewN | apply below_drew1 | refine below_set ?_ GE306.out | refine below_set ?_ GE327.out | refine below_set ?_ GE340.out) | exact HB.out)) hb); clear HO_4; clear HO332; clear BK306; clear BK327; clear BK340; clear HB; have HO_4 := n0_; have HO332 := n1_; have BK306 := n2_; have BK327 := n3_; have BK340 := n4_; have HB := n5_; clear n0_ n1_ n2_ n3_ n4_ n5_; (try clear hb); (try clear hb2); (try clear hk); (try clear hi)) | ((with_reducible refine gate_dst (N := 20) rfl ?_); refine box_event ?hg (N := 20) ?hd (cs := #[.int .i64 0, .int .i64 0]) (t := 27) ?hr ?_; (case hd => rfl); (case hg => rfl); (case hr => first | (go_simp; done) | (go_simp; rfl)); intro gb347 hg w66 hbox hb; have n0_ := Aside0.mk (Kd.R_below (Kd.R_up HO_4.out) hb); have n1_ := Aside0.mk (Kd.R_below (Kd.R_up HO332.out) hb); have n2_ := Aside0.mk (blk_below (g := gb306) (o := .cells #[.int .i64 t303, .int .i64 t304] 27 (0, 0)) (blk_up BK306.out) hb); have n3_ := Aside0.mk (blk_below (g := gb327) (o := .cells #[.int .i64 t310, .int .i64 t315] 27 (0, 0)) (blk_up BK327.out) hb); have n4_ := Aside0.mk (blk_below (g := gb340) (o := .cells #[.int .i64 t336, .int .i64 t337] 38 (0, 0)) (blk_up BK340.out) hb); have n5_ := Aside0.mk (below_step (by repeat (first | (with_reducible first | exact HB.out | apply below_alloc | apply pw_below_drewN | apply below_drew1 | refine below_set ?_ GE306.out | refine below_set ?_ GE327.out | refine below_set ?_ GE340.out) | exact HB.out)) hb); have n6_ := Aside0.mk (hbox); have n7_ := Aside0.mk ((by rw [hg]; exact (below_size (by repeat (first | (with_reducible first | exact HB.out | apply below_alloc | apply pw_below_drewN | apply below_drew1 | refine below_set ?_ GE306.out | refine below_set ?_ GE327.out | refine below_set ?_ GE340.out) | exact HB.out))) : w.heap.size ≤ gb347)); have n8_ := Aside0.mk ((by rw [hg]; exact (below_size (by repeat (first | (with_reducible first | exact HB.out | apply below_alloc | apply pw_below_drewN | apply below_drew1 | refine below_set ?_ GE306.out | refine below_set ?_ GE327.out | refine below_set ?_ GE340.out) | exact HB.out))) : w.heap.size ≤ gb347)); have n9_ := Aside0.mk ((by rw [hg]; exact Nat.ne_of_lt (blk_lt (g := gb306) (o := .cells #[.int .i64 t303, .int .i64 t304] 27 (0, 0)) (blk_up BK306.out)) : gb306 ≠ gb347)); have n10_ := Aside0.mk ((by rw [hg]; exact Nat.ne_of_gt (blk_lt (g := gb306) (o := .cells #[.int .i64 t303, .int .i64 t304] 27 (0, 0)) (blk_up BK306.out)) : gb347 ≠ gb306)); have n11_ := Aside0.mk ((by rw [hg]; exact Nat.ne_of_lt (blk_lt (g := gb327) (o := .cells #[.int .i64 t310, .int .i64 t315] 27 (0, 0)) (blk_up BK327.out)) : gb327 ≠ gb347)); have n12_ := Aside0.mk ((by rw [hg]; exact Nat.ne_of_gt (blk_lt (g := gb327) (o := .cells #[.int .i64 t310, .int .i64 t315] 27 (0, 0)) (blk_up BK327.out)) : gb347 ≠ gb327)); have n13_ := Aside0.mk ((by rw [hg]; exact Nat.ne_of_lt (blk_lt (g := gb340) (o := .cells #[.int .i64 t336, .int .i64 t337] 38 (0, 0)) (blk_up BK340.out)) : gb340 ≠ gb347)); have n14_ := Aside0.mk ((by rw [hg]; exact Nat.ne_of_gt (blk_lt (g := gb340) (o := .cells #[.int .i64 t336, .int .i64 t337] 38 (0, 0)) (blk_up BK340.out)) : gb347 ≠ gb340)); clear HO_4; clear HO332; clear BK306; clear BK327; clear BK340; clear HB; have HO_4 := n0_; have HO332 := n1_; have BK306 := n2_; have BK327 := n3_; have BK340 := n4_; have HB := n5_; have BK347 := n6_; have GW347 := n7_; have GE347 := n8_; have NB306_347 := n9_; have NB347_306 := n10_; have NB327_347 := n11_; have NB347_327 := n12_; have NB340_347 := n13_; have NB347_340 := n14_; clear n0_ n1_ n2_ n3_ n4_ n5_ n6_ n7_ n8_ n9_ n10_ n11_ n12_ n13_ n14_; clear hb hbox hg; have hnb67 := NB347_306.out; have hnc67 := NB306_347.out; have hnb68 := NB347_327.out; have hnc68 := NB327_347.out; have hnb69 := NB347_340.out; have hnc69 := NB340_347.out; have hcz70_0 : w66.cell? ⟨gb347, 0, none⟩ = some (.int .i64 0) := (blk_cell BK347.out 0).trans rfl; have hcz70_1 : w66.cell? ⟨gb347, 1, none⟩ = some (.int .i64 0) := (blk_cell BK347.out 1).trans rfl; have hfz70_0 := blk_frozen BK347.out 0; have hfz70_1 := blk_frozen BK347.out 1))
          (try simp only [Act.put, List.setIfInBounds_toArray, List.set_cons_zero, List.set_cons_succ])
          go_cut [22, 23, 24, 25] (fun v22 v23 v24 v25 wc => ∃ (kq : Nat) (x22_45 : Int) (x23_45 : Int) (x24_45 : Int) (x25_45 : Int), v22 = .int .i64 x22_45 ∧ v23 = .int .i64 x23_45 ∧ v24 = .int .i64 x24_45 ∧ v25 = .int .i64 x25_45 ∧ Aside0 (pilelaw1_HoursCounted.j1 kq t300 t320 t325 x9_6 t330 t333 t334 t335 t338 t339 t341 t342 t343 t346 x22_45 x23_45 x24_45 x25_45 t303 t304 t310 t315 t336 t337 t344 t345 = some r) ∧ Aside0 (kq ≤ kj6) ∧ Aside0 (Kd.R (Kd.int .i64) 3 wc w.heap.size (fun k_ => some k_ ≠ (v331 : Value).ownBlock) (.slice Ao49 t300.length co49) t300) ∧ Aside0 (Kd.R (Kd.int .i64) 3 wc w.heap.size (fun k_ => some k_ ≠ ((.slice Ao49 t300.length co49) : Value).ownBlock) v331 t330) ∧ Aside0 (wc.heap[gb306]? = some (.cells #[.int .i64 t303, .int .i64 t304] 27 (0, 0))) ∧ Aside0 (wc.heap[gb327]? = some (.cells #[.int .i64 t310, .int .i64 t315] 27 (0, 0))) ∧ Aside0 (wc.heap[gb340]? = some (.cells #[.int .i64 t336, .int .i64 t337] 38 (0, 0))) ∧ Aside0 (wc.heap[gb347]? = some (.cells #[.int .i64 t344, .int .i64 t345] 27 (0, 0))) ∧ Aside0 (Below w.heap.size w wc))
          case first =>
            have H := HC46.out; clear HC46
            by_cases c71 : x9_6 = 0
            · rw [if_pos c71] at H
              have c71b0 : (x9_6 == 0) = true := beq_iff_eq.mpr c71; have c71b1 : (x9_6 != 0) = false := bne_eq_false_iff_eq.mpr c71; clear c71
              (first | rw [c71b0] | (simp only [i64_w, i32_w]; rw [c71b0]) | skip)
              replace H := Option.bind_eq_some_iff.mp H; obtain ⟨t348, A720, H⟩ := H; (replace H : ((pileref1_WindowFault.f kj6 t310 t315).bind fun t349 => ((pileref1_MomentFault.f t320).bind fun t350 => ((pileref1_LongFault.f t325).bind fun t351 => ((api_Errno.f kj6 (([t350, t351] : List Int))).bind fun t355 => ((pileref1_LongFault.f t325).bind fun t356 => (pilelaw1_HoursCounted.j1 kj6 t300 t320 t325 x9_6 t330 t333 t334 t335 t338 t339 t341 t342 t343 t346 t348 t349 t355 t356 t303 t304 t310 t315 t336 t337 t344 t345)))))) = some r := H); have A72 := Aside0.mk A720; clear A720; replace H := Option.bind_eq_some_iff.mp H; obtain ⟨t349, A730, H⟩ := H; (replace H : ((pileref1_MomentFault.f t320).bind fun t350 => ((pileref1_LongFault.f t325).bind fun t351 => ((api_Errno.f kj6 (([t350, t351] : List Int))).bind fun t355 => ((pileref1_LongFault.f t325).bind fun t356 => (pilelaw1_HoursCounted.j1 kj6 t300 t320 t325 x9_6 t330 t333 t334 t335 t338 t339 t341 t342 t343 t346 t348 t349 t355 t356 t303 t304 t310 t315 t336 t337 t344 t345))))) = some r := H); have A73 := Aside0.mk A730; clear A730; replace H := Option.bind_eq_some_iff.mp H; obtain ⟨t350, A740, H⟩ := H; (replace H : ((pileref1_LongFault.f t325).bind fun t351 => ((api_Errno.f kj6 (([t350, t351] : List Int))).bind fun t355 => ((pileref1_LongFault.f t325).bind fun t356 => (pilelaw1_HoursCounted.j1 kj6 t300 t320 t325 x9_6 t330 t333 t334 t335 t338 t339 t341 t342 t343 t346 t348 t349 t355 t356 t303 t304 t310 t315 t336 t337 t344 t345)))) = some r := H); have A74 := Aside0.mk A740; clear A740; replace H := Option.bind_eq_some_iff.mp H; obtain ⟨t351, A750, H⟩ := H; (replace H : ((api_Errno.f kj6 (([t350, t351] : List Int))).bind fun t355 => ((pileref1_LongFault.f t325).bind fun t356 => (pilelaw1_HoursCounted.j1 kj6 t300 t320 t325 x9_6 t330 t333 t334 t335 t338 t339 t341 t342 t343 t346 t348 t349 t355 t356 t303 t304 t310 t315 t336 t337 t344 t345))) = some r := H); have A75 := Aside0.mk A750; clear A750; obtain ⟨y352, hy352⟩ : ∃ y_ : List Int, y_ = (([t350, t351] : List Int)) := ⟨_, rfl⟩; (replace H : ((api_Errno.f kj6 y352).bind fun t355 => ((pileref1_LongFault.f t325).bind fun t356 => (pilelaw1_HoursCounted.j1 kj6 t300 t320 t325 x9_6 t330 t333 t334 t335 t338 t339 t341 t342 t343 t346 t348 t349 t355 t356 t303 t304 t310 t315 t336 t337 t344 t345))) = some r := by first | (rw [hy352]; with_reducible exact H) | (have H2_ := (Option.bind_some _ _).symm.trans H; rw [hy352]; with_reducible exact H2_) | (have H2_ := (Option.bind_some _ _).symm.trans H; with_reducible exact H2_) | with_reducible exact H | (rw [hy352]; exact H) | exact H); have Ny352 := Aside0.mk hy352; clear hy352; replace H := Option.bind_eq_some_iff.mp H; obtain ⟨t355, A760, H⟩ := H; (replace H : ((pileref1_LongFault.f t325).bind fun t356 => (pilelaw1_HoursCounted.j1 kj6 t300 t320 t325 x9_6 t330 t333 t334 t335 t338 t339 t341 t342 t343 t346 t348 t349 t355 t356 t303 t304 t310 t315 t336 t337 t344 t345)) = some r := H); have A76 := Aside0.mk A760; clear A760; replace H := Option.bind_eq_some_iff.mp H; obtain ⟨t356, A770, H⟩ := H; replace H : (pilelaw1_HoursCounted.j1 kj6 t300 t320 t325 x9_6 t330 t333 t334 t335 t338 t339 t341 t342 t343 t346 t348 t349 t355 t356 t303 t304 t310 t315 t336 t337 t344 t345) = some r := H; have A77 := Aside0.mk A770; clear A770
              as_aux_lemma =>
                have H' := Aside0.mk H; clear H
                try go_wp2
                (have n0_ : Aside0 (Kd.R (Kd.int .i64) 3 ((w66.setCell ⟨gb347, 0, none⟩ (.int .i64 t344)).setCell ⟨gb347, 1, none⟩ (.int .i64 t345)) w.heap.size (fun k_ => some k_ ≠ (v331 : Value).ownBlock) (.slice Ao49 t300.length co49) t300) := ⟨by (with_reducible repeat (first | apply Kd.R_alloc | apply Kd.R_drewN | apply Kd.R_drew)); exact Kd.R_mono (Kd.R_far (p := ⟨gb347, 1, none⟩) (Kd.R_far (p := ⟨gb347, 0, none⟩) (Kd.R_types HO_4.out BK347.out (by decide)) (fun _ hk => hk.2) (.int .i64 t344)) (fun _ hk => hk.2) (.int .i64 t345)) (fun _ hk => hk.1.2)⟩); (have n1_ : Aside0 (Kd.R (Kd.int .i64) 3 ((w66.setCell ⟨gb347, 0, none⟩ (.int .i64 t344)).setCell ⟨gb347, 1, none⟩ (.int .i64 t345)) w.heap.size (fun k_ => some k_ ≠ (.slice Ao49 t300.length co49 : Value).ownBlock) v331 t330) := ⟨by (with_reducible repeat (first | apply Kd.R_alloc | apply Kd.R_drewN | apply Kd.R_drew)); exact Kd.R_mono (Kd.R_far (p := ⟨gb347, 1, none⟩) (Kd.R_far (p := ⟨gb347, 0, none⟩) (Kd.R_types HO332.out BK347.out (by decide)) (fun _ hk => hk.2) (.int .i64 t344)) (fun _ hk => hk.2) (.int .i64 t345)) (fun _ hk => hk.1.2)⟩); (have n2_ : Aside0 (((w66.setCell ⟨gb347, 0, none⟩ (.int .i64 t344)).setCell ⟨gb347, 1, none⟩ (.int .i64 t345)).heap[gb306]? = some (.cells #[.int .i64 t303, .int .i64 t304] 27 (0, 0))) := ⟨by (with_reducible repeat (first | refine blk_drewN ?_ _ | refine blk_drew ?_ | refine blk_alloc ?_ _)); refine blk_far ?_ NB306_347.out _; (with_reducible repeat (first | refine blk_drewN ?_ _ | refine blk_drew ?_ | refine blk_alloc ?_ _)); refine blk_far ?_ NB306_347.out _; (with_reducible repeat (first | refine blk_drewN ?_ _ | refine blk_drew ?_ | refine blk_alloc ?_ _)); exact BK306.out⟩); (have n3_ : Aside0 (((w66.setCell ⟨gb347, 0, none⟩ (.int .i64 t344)).setCell ⟨gb347, 1, none⟩ (.int .i64 t345)).heap[gb327]? = some (.cells #[.int .i64 t310, .int .i64 t315] 27 (0, 0))) := ⟨by (with_reducible repeat (first | refine blk_drewN ?_ _ | refine blk_drew ?_ | refine blk_alloc ?_ _)); refine blk_far ?_ NB327_347.out _; (with_reducible repeat (first | refine blk_drewN ?_ _ | refine blk_drew ?_ | refine blk_alloc ?_ _)); refine blk_far ?_ NB327_347.out _; (with_reducible repeat (first | refine blk_drewN ?_ _ | refine blk_drew ?_ | refine blk_alloc ?_ _)); exact BK327.out⟩); (have n4_ : Aside0 (((w66.setCell ⟨gb347, 0, none⟩ (.int .i64 t344)).setCell ⟨gb347, 1, none⟩ (.int .i64 t345)).heap[gb340]? = some (.cells #[.int .i64 t336, .int .i64 t337] 38 (0, 0))) := ⟨by (with_reducible repeat (first | refine blk_drewN ?_ _ | refine blk_drew ?_ | refine blk_alloc ?_ _)); refine blk_far ?_ NB340_347.out _; (with_reducible repeat (first | refine blk_drewN ?_ _ | refine blk_drew ?_ | refine blk_alloc ?_ _)); refine blk_far ?_ NB340_347.out _; (with_reducible repeat (first | refine blk_drewN ?_ _ | refine blk_drew ?_ | refine blk_alloc ?_ _)); exact BK340.out⟩); (have n5_ : Aside0 (((w66.setCell ⟨gb347, 0, none⟩ (.int .i64 t344)).setCell ⟨gb347, 1, none⟩ (.int .i64 t345)).heap[gb347]? = some (.cells #[.int .i64 t344, .int .i64 t345] 27 (0, 0))) := ⟨by (with_reducible repeat (first | refine blk_drewN ?_ _ | refine blk_drew ?_ | refine blk_alloc ?_ _)); refine blk_put (cs := #[.int .i64 t344, .int .i64 0]) ?_ 1 _ rfl; (with_reducible repeat (first | refine blk_drewN ?_ _ | refine blk_drew ?_ | refine blk_alloc ?_ _)); refine blk_put (cs := #[.int .i64 0, .int .i64 0]) ?_ 0 _ rfl; (with_reducible repeat (first | refine blk_drewN ?_ _ | refine blk_drew ?_ | refine blk_alloc ?_ _)); exact BK347.out⟩); (have n6_ : Aside0 (Below w.heap.size w ((w66.setCell ⟨gb347, 0, none⟩ (.int .i64 t344)).setCell ⟨gb347, 1, none⟩ (.int .i64 t345))) := ⟨by repeat (first | (with_reducible first | exact HB.out | apply below_alloc | apply pw_below_drewN | apply below_drew1 | refine below_set ?_ GE306.out | refine below_set ?_ GE327.out | refine below_set ?_ GE340.out | refine below_set ?_ GE347.out) | exact HB.out)⟩); (try clear HO_4); (try clear HO332); (try clear BK306); (try clear BK327); (try clear BK340); (try clear BK347); (try clear HB)
                generalize ((w66.setCell ⟨gb347, 0, none⟩ (.int .i64 t344)).setCell ⟨gb347, 1, none⟩ (.int .i64 t345)) = w78 at n0_ n1_ n2_ n3_ n4_ n5_ n6_ ⊢
                have HO_4 := n0_; have HO332 := n1_; have BK306 := n2_; have BK327 := n3_; have BK340 := n4_; have BK347 := n5_; have HB := n6_; clear n0_ n1_ n2_ n3_ n4_ n5_ n6_; have n0_ := Aside0.mk (Kd.R_drew HO_4.out); have n1_ := Aside0.mk (Kd.R_drew HO332.out); have n2_ := Aside0.mk (blk_drew BK306.out); have n3_ := Aside0.mk (blk_drew BK327.out); have n4_ := Aside0.mk (blk_drew BK340.out); have n5_ := Aside0.mk (blk_drew BK347.out); have n6_ := Aside0.mk (below_drew1 HB.out); clear HO_4; clear HO332; clear BK306; clear BK327; clear BK340; clear BK347; clear HB; have HO_4 := n0_; have HO332 := n1_; have BK306 := n2_; have BK327 := n3_; have BK340 := n4_; have BK347 := n5_; have HB := n6_; clear n0_ n1_ n2_ n3_ n4_ n5_ n6_
                refine start_ (n := 16) (S := fun w' => w'.cell? ⟨gb306, 0, none⟩ = some (.int .i64 t303) ∧ w'.cell? ⟨gb306, 1, none⟩ = some (.int .i64 t304) ∧ w'.cell? ⟨gb327, 0, none⟩ = some (.int .i64 t310) ∧ w'.cell? ⟨gb327, 1, none⟩ = some (.int .i64 t315)) (ds := []) #[false, false, false, false, false, false, false, false, false, false, false, false, false, false, false, false] (by kernel_rfl) rfl rfl ⟨(blk_cell BK306.out 0).trans rfl, (blk_cell BK306.out 1).trans rfl, (blk_cell BK327.out 0).trans rfl, (blk_cell BK327.out 1).trans rfl⟩ (fun hHeld => ?_); refine with_tabW pilelaw1_HoursCounted.tab14 pilelaw1_HoursCounted.bits14 (fun HT_ HW_ => ?_)
                generalize w78.drew = w79 at HO_4 HO332 BK306 BK327 BK340 BK347 HB hHeld ⊢
                refine pure_ (i := 4) (N := some 108) (v := ?_) (a' := ?_) #[false, false, false, false, true, false, false, false, false, false, false, false, false, false, false, false] rfl rfl (any_of HT_.out (by kernel_rfl)) (fun _ _ _ h => h) (Or.inl ⟨by rfl, ?_⟩) ?_ ?_
                rotate_left
                · intro w'
                  go_simp
                  with_reducible rfl
                rotate_left
                · simp only [Act.put, List.setIfInBounds_toArray, List.set_cons_zero, List.set_cons_succ, i64_w, i32_w]
                  rfl
                refine pure_ (i := 6) (N := some 110) (v := ?_) (a' := ?_) #[false, false, false, false, true, false, true, false, false, false, false, false, false, false, false, false] rfl rfl (any_of HT_.out (by kernel_rfl)) (fun _ _ _ h => h) (Or.inl ⟨by rfl, ?_⟩) ?_ ?_
                rotate_left
                · intro w'
                  go_simp
                  with_reducible rfl
                rotate_left
                · simp only [Act.put, List.setIfInBounds_toArray, List.set_cons_zero, List.set_cons_succ, i64_w, i32_w]
                  rfl
                refine pure_ (i := 10) (N := some 114) (v := ?_) (a' := ?_) #[false, false, false, false, true, false, true, false, false, false, true, false, false, false, false, false] rfl rfl (any_of HT_.out (by kernel_rfl)) (fun _ _ _ h => h) (Or.inl ⟨by rfl, ?_⟩) ?_ ?_
                rotate_left
                · intro w'
                  go_simp
                  with_reducible rfl
                rotate_left
                · simp only [Act.put, List.setIfInBounds_toArray, List.set_cons_zero, List.set_cons_succ, i64_w, i32_w]
                  rfl
                refine take_ (i := 0) (N := some 104) (v := ?_) (a' := ?_) #[true, false, false, false, true, false, true, false, false, false, true, false, false, false, false, false] rfl rfl (take_ofW HT_.out HW_.out (by kernel_rfl)) (fun _ _ _ h => h) (Or.inl ⟨by rfl, ?_⟩) hHeld ?_ ?_
                rotate_left
                · rintro w' ⟨s0, s1, s2, s3⟩
                  go_simp
                  with_reducible rfl
                rotate_left
                · simp only [Act.put, List.setIfInBounds_toArray, List.set_cons_zero, List.set_cons_succ, i64_w, i32_w]
                  rfl
                refine take_ (i := 2) (N := some 106) (v := ?_) (a' := ?_) #[true, false, true, false, true, false, true, false, false, false, true, false, false, false, false, false] rfl rfl (take_ofW HT_.out HW_.out (by kernel_rfl)) (fun _ _ _ h => h) (Or.inl ⟨by rfl, ?_⟩) hHeld ?_ ?_
                rotate_left
                · rintro w' ⟨s0, s1, s2, s3⟩
                  go_simp
                  with_reducible rfl
                rotate_left
                · simp only [Act.put, List.setIfInBounds_toArray, List.set_cons_zero, List.set_cons_succ, i64_w, i32_w]
                  rfl
                refine one_ (i := 1) (N := some 105) #[true, true, true, false, true, false, true, false, false, false, true, false, false, false, false, false] rfl rfl (one_of HT_.out (by kernel_rfl)) (by decide) (fun K hK => ?_)
                refine goes_ Try.func15 (by kernel_rfl) rfl #[.agg #[.int .i64 t303, .int .i64 t304]] (by rfl) rfl rfl (by (try simp only [List.map_toArray, List.map_cons, List.map_nil]); first | done | rfl | (simp only [List.length_drop, List.length_take]; rfl)) ?_
                with_reducible refine (pileref1_HoursFault.calls t303 t304 t348 _ A72.out).mono ?_
                rintro e w80 ⟨rfl, hb⟩
                refine ⟨_, rfl, ?_⟩
                have n0_ := Aside0.mk (Kd.R_below (Kd.R_up HO_4.out) hb); have n1_ := Aside0.mk (Kd.R_below (Kd.R_up HO332.out) hb); have n2_ := Aside0.mk (blk_below (g := gb306) (o := .cells #[.int .i64 t303, .int .i64 t304] 27 (0, 0)) (blk_up BK306.out) hb); have n3_ := Aside0.mk (blk_below (g := gb327) (o := .cells #[.int .i64 t310, .int .i64 t315] 27 (0, 0)) (blk_up BK327.out) hb); have n4_ := Aside0.mk (blk_below (g := gb340) (o := .cells #[.int .i64 t336, .int .i64 t337] 38 (0, 0)) (blk_up BK340.out) hb); have n5_ := Aside0.mk (blk_below (g := gb347) (o := .cells #[.int .i64 t344, .int .i64 t345] 27 (0, 0)) (blk_up BK347.out) hb); (have n6_ := Aside0.mk (below_step (by repeat (first | (with_reducible first | exact HB.out | apply below_alloc | apply pw_below_drewN | apply below_drew1 | refine below_set ?_ GE306.out | refine below_set ?_ GE327.out | refine below_set ?_ GE340.out | refine below_set ?_ GE347.out) | exact HB.out)) hb)); clear HO_4; clear HO332; clear BK306; clear BK327; clear BK340; clear BK347; clear HB; have HO_4 := n0_; have HO332 := n1_; have BK306 := n2_; have BK327 := n3_; have BK340 := n4_; have BK347 := n5_; have HB := n6_; clear n0_ n1_ n2_ n3_ n4_ n5_ n6_; (try clear hb); (try clear hb2); (try clear hk); (try clear hi)
                refine hK.out _ _ ⟨(blk_cell BK306.out 0).trans rfl, (blk_cell BK306.out 1).trans rfl, (blk_cell BK327.out 0).trans rfl, (blk_cell BK327.out 1).trans rfl⟩ (fun hHeld => ?_)
                clear hK K
                refine norm_ (a' := ?_) ?_ ?_
                rotate_left
                · show Act.put _ (some 105) _ = _
                  simp only [Act.put, List.setIfInBounds_toArray, List.set_cons_zero, List.set_cons_succ, i64_w, i32_w]
                  rfl
                refine one_ (i := 3) (N := some 107) #[true, true, true, true, true, false, true, false, false, false, true, false, false, false, false, false] rfl rfl (one_of HT_.out (by kernel_rfl)) (by decide) (fun K hK => ?_)
                refine goes_ Try.func16 (by kernel_rfl) rfl #[.agg #[.int .i64 t310, .int .i64 t315]] (by rfl) rfl rfl (by (try simp only [List.map_toArray, List.map_cons, List.map_nil]); first | done | rfl | (simp only [List.length_drop, List.length_take]; rfl)) ?_
                with_reducible refine (pileref1_WindowFault.calls kj6 t310 t315 t349 _ A73.out).mono ?_
                rintro e w81 ⟨rfl, hb⟩
                refine ⟨_, rfl, ?_⟩
                have n0_ := Aside0.mk (Kd.R_below (Kd.R_up HO_4.out) hb); have n1_ := Aside0.mk (Kd.R_below (Kd.R_up HO332.out) hb); have n2_ := Aside0.mk (blk_below (g := gb306) (o := .cells #[.int .i64 t303, .int .i64 t304] 27 (0, 0)) (blk_up BK306.out) hb); have n3_ := Aside0.mk (blk_below (g := gb327) (o := .cells #[.int .i64 t310, .int .i64 t315] 27 (0, 0)) (blk_up BK327.out) hb); have n4_ := Aside0.mk (blk_below (g := gb340) (o := .cells #[.int .i64 t336, .int .i64 t337] 38 (0, 0)) (blk_up BK340.out) hb); have n5_ := Aside0.mk (blk_below (g := gb347) (o := .cells #[.int .i64 t344, .int .i64 t345] 27 (0, 0)) (blk_up BK347.out) hb); (have n6_ := Aside0.mk (below_step (by repeat (first | (with_reducible first | exact HB.out | apply below_alloc | apply pw_below_drewN | apply below_drew1 | refine below_set ?_ GE306.out | refine below_set ?_ GE327.out | refine below_set ?_ GE340.out | refine below_set ?_ GE347.out) | exact HB.out)) hb)); clear HO_4; clear HO332; clear BK306; clear BK327; clear BK340; clear BK347; clear HB; have HO_4 := n0_; have HO332 := n1_; have BK306 := n2_; have BK327 := n3_; have BK340 := n4_; have BK347 := n5_; have HB := n6_; clear n0_ n1_ n2_ n3_ n4_ n5_ n6_; (try clear hb); (try clear hb2); (try clear hk); (try clear hi)
                refine hK.out _ _ ⟨(blk_cell BK306.out 0).trans rfl, (blk_cell BK306.out 1).trans rfl, (blk_cell BK327.out 0).trans rfl, (blk_cell BK327.out 1).trans rfl⟩ (fun hHeld => ?_)
                clear hK K
                refine norm_ (a' := ?_) ?_ ?_
                rotate_left
                · show Act.put _ (some 107) _ = _
                  simp only [Act.put, List.setIfInBounds_toArray, List.set_cons_zero, List.set_cons_succ, i64_w, i32_w]
                  rfl
                refine one_ (i := 5) (N := some 109) #[true, true, true, true, true, true, true, false, false, false, true, false, false, false, false, false] rfl rfl (one_of HT_.out (by kernel_rfl)) (by decide) (fun K hK => ?_)
                refine goes_ Try.func18 (by kernel_rfl) rfl #[.int .i64 t320] (by rfl) rfl rfl (by (try simp only [List.map_toArray, List.map_cons, List.map_nil]); first | done | rfl | (simp only [List.length_drop, List.length_take]; rfl)) ?_
                with_reducible refine (pileref1_MomentFault.calls t320 t350 _ A74.out).mono ?_
                rintro e w' ⟨rfl, ⟨nd, rfl⟩⟩
                refine ⟨_, rfl, ?_⟩
                refine hK.out _ _ ⟨(blk_cell BK306.out 0).trans rfl, (blk_cell BK306.out 1).trans rfl, (blk_cell BK327.out 0).trans rfl, (blk_cell BK327.out 1).trans rfl⟩ (fun hHeld => ?_)
                clear hK K
                refine norm_ (a' := ?_) ?_ ?_
                rotate_left
                · show Act.put _ (some 109) _ = _
                  simp only [Act.put, List.setIfInBounds_toArray, List.set_cons_zero, List.set_cons_succ, i64_w, i32_w]
                  rfl
                refine one_ (i := 7) (N := some 111) #[true, true, true, true, true, true, true, true, false, false, true, false, false, false, false, false] rfl rfl (one_of HT_.out (by kernel_rfl)) (by decide) (fun K hK => ?_)
                refine goes_ Try.func19 (by kernel_rfl) rfl #[.int .i64 t325] (by rfl) rfl rfl (by (try simp only [List.map_toArray, List.map_cons, List.map_nil]); first | done | rfl | (simp only [List.length_drop, List.length_take]; rfl)) ?_
                with_reducible refine (pileref1_LongFault.calls t325 t351 _ A75.out).mono ?_
                rintro e w' ⟨rfl, ⟨nd, rfl⟩⟩
                refine ⟨_, rfl, ?_⟩
                refine hK.out _ _ ⟨(blk_cell BK306.out 0).trans rfl, (blk_cell BK306.out 1).trans rfl, (blk_cell BK327.out 0).trans rfl, (blk_cell BK327.out 1).trans rfl⟩ (fun hHeld => ?_)
                clear hK K
                refine norm_ (a' := ?_) ?_ ?_
                rotate_left
                · show Act.put _ (some 111) _ = _
                  simp only [Act.put, List.setIfInBounds_toArray, List.set_cons_zero, List.set_cons_succ, i64_w, i32_w]
                  rfl
                refine one_ (i := 8) (N := some 112) #[true, true, true, true, true, true, true, true, true, false, true, false, false, false, false, false] rfl rfl (one_of HT_.out (by kernel_rfl)) (by decide) (fun K hK => ?_)
                refine Kd.R_lit_step (Kd.int .i64) _ 31 ?hg (N := 112) ?hd (xs := ([t350, t351] : List Int)) (inner := [.int .i64 t350, .int .i64 t351]) (ok := fun _ => True) (okp := fun _ => True) ?hr ?hp (fun _ hk => hk) trivial (Below.refl _ _) (Nat.le_refl _) (by simp) ?_; (case hd => rfl); (case hg => rfl); (case hr => first | (go_simp; done) | (go_simp; rfl)); (case hp => exact (Reps.one (show Kd.M (Kd.int .i64) _ _ _ t350 [.int .i64 t350] from rfl) (Reps.one (show Kd.M (Kd.int .i64) _ _ _ t351 [.int .i64 t351] from rfl) (Reps.none _ _))))
                intro v353 w82 ho83 hb hg_ hnew_
                clear hg_ hnew_
                (first | rw [← Ny352.out] at ho83 | (simp only [Int.reduceToNat] at ho83; rw [← Ny352.out] at ho83))
                have n0_ := Aside0.mk (Kd.R_below (Kd.R_up HO_4.out) hb); have n1_ := Aside0.mk (Kd.R_below (Kd.R_up HO332.out) hb); (have n2_ := Aside0.mk (Kd.R_lower ho83 (below_size (by repeat (first | (with_reducible first | exact HB.out | apply below_alloc | apply pw_below_drewN | apply below_drew1 | refine below_set ?_ GE306.out | refine below_set ?_ GE327.out | refine below_set ?_ GE340.out | refine below_set ?_ GE347.out) | exact HB.out))))); have n3_ := Aside0.mk (blk_below (g := gb306) (o := .cells #[.int .i64 t303, .int .i64 t304] 27 (0, 0)) (blk_up BK306.out) hb); have n4_ := Aside0.mk (blk_below (g := gb327) (o := .cells #[.int .i64 t310, .int .i64 t315] 27 (0, 0)) (blk_up BK327.out) hb); have n5_ := Aside0.mk (blk_below (g := gb340) (o := .cells #[.int .i64 t336, .int .i64 t337] 38 (0, 0)) (blk_up BK340.out) hb); have n6_ := Aside0.mk (blk_below (g := gb347) (o := .cells #[.int .i64 t344, .int .i64 t345] 27 (0, 0)) (blk_up BK347.out) hb); (have n7_ := Aside0.mk (below_step (by repeat (first | (with_reducible first | exact HB.out | apply below_alloc | apply pw_below_drewN | apply below_drew1 | refine below_set ?_ GE306.out | refine below_set ?_ GE327.out | refine below_set ?_ GE340.out | refine below_set ?_ GE347.out) | exact HB.out)) hb)); clear HO_4; clear HO332; clear BK306; clear BK327; clear BK340; clear BK347; clear HB; have HO_4 := n0_; have HO332 := n1_; have HO354 := n2_; have BK306 := n3_; have BK327 := n4_; have BK340 := n5_; have BK347 := n6_; have HB := n7_; clear n0_ n1_ n2_ n3_ n4_ n5_ n6_ n7_; clear hb ho83; obtain ⟨Ao84, co84, eo84⟩ := Kd.R_slice HO354.out
                (first | subst eo84 | (injection eo84 with f1_ f2_ f3_; have f4_ := f1_.symm; have f5_ := f3_.symm; clear f1_ f2_ f3_; subst f4_; subst f5_))
                refine hK.out _ _ ⟨(blk_cell BK306.out 0).trans rfl, (blk_cell BK306.out 1).trans rfl, (blk_cell BK327.out 0).trans rfl, (blk_cell BK327.out 1).trans rfl⟩ (fun hHeld => ?_)
                clear hK K
                refine norm_ (a' := ?_) ?_ ?_
                rotate_left
                · show Act.put _ (some 112) _ = _
                  simp only [Act.put, List.setIfInBounds_toArray, List.set_cons_zero, List.set_cons_succ, i64_w, i32_w]
                  rfl
                refine one_ (i := 9) (N := some 113) #[true, true, true, true, true, true, true, true, true, true, true, false, false, false, false, false] rfl rfl (one_of HT_.out (by kernel_rfl)) (by decide) (fun K hK => ?_)
                refine goes_ Try.func17 (by kernel_rfl) rfl #[.slice Ao84 y352.length co84] (by rfl) rfl rfl (by (try simp only [List.map_toArray, List.map_cons, List.map_nil]); first | done | rfl | (simp only [List.length_drop, List.length_take]; rfl)) ?_
                with_reducible refine (api_Errno.calls kj6 _ _ y352 t355 _ ?side1 ?side2 A76.out).mono ?_
                (case side1 => repeat (first | exact (Kd.R_reads' HO354.out).2.2 | (with_reducible refine Kd.C_alloc ?_ _) | (with_reducible refine Kd.C_drewN ?_ _) | (with_reducible refine Kd.C_drew ?_)))
                (case side2 => exact (Kd.R_reads' HO354.out).2.1)
                rintro e w' ⟨rfl, ⟨nd, rfl⟩⟩
                refine ⟨_, rfl, ?_⟩
                refine hK.out _ _ ⟨(blk_cell BK306.out 0).trans rfl, (blk_cell BK306.out 1).trans rfl, (blk_cell BK327.out 0).trans rfl, (blk_cell BK327.out 1).trans rfl⟩ (fun hHeld => ?_)
                clear hK K
                refine norm_ (a' := ?_) ?_ ?_
                rotate_left
                · show Act.put _ (some 113) _ = _
                  simp only [Act.put, List.setIfInBounds_toArray, List.set_cons_zero, List.set_cons_succ, i64_w, i32_w]
                  rfl
                refine one_ (i := 11) (N := some 115) #[true, true, true, true, true, true, true, true, true, true, true, true, false, false, false, false] rfl rfl (one_of HT_.out (by kernel_rfl)) (by decide) (fun K hK => ?_)
                refine goes_ Try.func19 (by kernel_rfl) rfl #[.int .i64 t325] (by rfl) rfl rfl (by (try simp only [List.map_toArray, List.map_cons, List.map_nil]); first | done | rfl | (simp only [List.length_drop, List.length_take]; rfl)) ?_
                with_reducible refine (pileref1_LongFault.calls t325 t356 _ A77.out).mono ?_
                rintro e w' ⟨rfl, ⟨nd, rfl⟩⟩
                refine ⟨_, rfl, ?_⟩
                refine hK.out _ _ ⟨(blk_cell BK306.out 0).trans rfl, (blk_cell BK306.out 1).trans rfl, (blk_cell BK327.out 0).trans rfl, (blk_cell BK327.out 1).trans rfl⟩ (fun hHeld => ?_)
                clear hK K
                refine norm_ (a' := ?_) ?_ ?_
                rotate_left
                · show Act.put _ (some 115) _ = _
                  simp only [Act.put, List.setIfInBounds_toArray, List.set_cons_zero, List.set_cons_succ, i64_w, i32_w]
                  rfl
                refine pure_ (i := 12) (N := some 22) (v := ?_) (a' := ?_) #[true, true, true, true, true, true, true, true, true, true, true, true, true, false, false, false] rfl rfl (any_of HT_.out (by kernel_rfl)) (fun _ _ _ h => h) (Or.inl ⟨by rfl, ?_⟩) ?_ ?_
                rotate_left
                · intro w'
                  go_simp
                  with_reducible rfl
                rotate_left
                · simp only [Act.put, List.setIfInBounds_toArray, List.set_cons_zero, List.set_cons_succ, i64_w, i32_w]
                  rfl
                refine pure_ (i := 13) (N := some 23) (v := ?_) (a' := ?_) #[true, true, true, true, true, true, true, true, true, true, true, true, true, true, false, false] rfl rfl (any_of HT_.out (by kernel_rfl)) (fun _ _ _ h => h) (Or.inl ⟨by rfl, ?_⟩) ?_ ?_
                rotate_left
                · intro w'
                  go_simp
                  with_reducible rfl
                rotate_left
                · simp only [Act.put, List.setIfInBounds_toArray, List.set_cons_zero, List.set_cons_succ, i64_w, i32_w]
                  rfl
                refine pure_ (i := 14) (N := some 24) (v := ?_) (a' := ?_) #[true, true, true, true, true, true, true, true, true, true, true, true, true, true, true, false] rfl rfl (any_of HT_.out (by kernel_rfl)) (fun _ _ _ h => h) (Or.inl ⟨by rfl, ?_⟩) ?_ ?_
                rotate_left
                · intro w'
                  go_simp
                  with_reducible rfl
                rotate_left
                · simp only [Act.put, List.setIfInBounds_toArray, List.set_cons_zero, List.set_cons_succ, i64_w, i32_w]
                  rfl
                refine pure_ (i := 15) (N := some 25) (v := ?_) (a' := ?_) #[true, true, true, true, true, true, true, true, true, true, true, true, true, true, true, true] rfl rfl (any_of HT_.out (by kernel_rfl)) (fun _ _ _ h => h) (Or.inl ⟨by rfl, ?_⟩) ?_ ?_
                rotate_left
                · intro w'
                  go_simp
                  with_reducible rfl
                rotate_left
                · simp only [Act.put, List.setIfInBounds_toArray, List.set_cons_zero, List.set_cons_succ, i64_w, i32_w]
                  rfl
                refine done_ (done_of HT_.out (by kernel_rfl)) ?_
                try go_wp2
                go_meet
                case rel => exact ⟨_, (t348), (t349), (t355), (t356), (by first | rfl | (simp; done) | (simp [*]; done)), (by first | rfl | (simp; done) | (simp [*]; done)), (by first | rfl | (simp; done) | (simp [*]; done)), (by first | rfl | (simp; done) | (simp [*]; done)), H', ⟨by have := HJ6.out; first | omega | exact Nat.le_refl _⟩, ⟨by (with_reducible repeat (first | apply Kd.R_alloc | apply Kd.R_drewN | apply Kd.R_drew)); exact HO_4.out⟩, ⟨by (with_reducible repeat (first | apply Kd.R_alloc | apply Kd.R_drewN | apply Kd.R_drew)); exact HO332.out⟩, ⟨by (with_reducible repeat (first | refine blk_drewN ?_ _ | refine blk_drew ?_ | refine blk_alloc ?_ _)); exact BK306.out⟩, ⟨by (with_reducible repeat (first | refine blk_drewN ?_ _ | refine blk_drew ?_ | refine blk_alloc ?_ _)); exact BK327.out⟩, ⟨by (with_reducible repeat (first | refine blk_drewN ?_ _ | refine blk_drew ?_ | refine blk_alloc ?_ _)); exact BK340.out⟩, ⟨by (with_reducible repeat (first | refine blk_drewN ?_ _ | refine blk_drew ?_ | refine blk_alloc ?_ _)); exact BK347.out⟩, ⟨by repeat (first | (with_reducible first | exact HB.out | apply below_alloc | apply pw_below_drewN | apply below_drew1 | refine below_set ?_ GE306.out | refine below_set ?_ GE327.out | refine below_set ?_ GE340.out | refine below_set ?_ GE347.out) | exact HB.out)⟩⟩
            · rw [if_neg c71] at H
              have c71b0 : (x9_6 == 0) = false := beq_eq_false_iff_ne.mpr c71; have c71b1 : (x9_6 != 0) = true := bne_iff_ne.mpr c71
              (first | rw [c71b0] | (simp only [i64_w, i32_w]; rw [c71b0]) | skip)
              as_aux_lemma =>
                have H' := Aside0.mk H; clear H
                go_wp2
                go_meet
                case rel => exact ⟨_, (x9_6), (x9_6), (x9_6), (x9_6), (by first | rfl | (simp; done) | (simp [*]; done)), (by first | rfl | (simp; done) | (simp [*]; done)), (by first | rfl | (simp; done) | (simp [*]; done)), (by first | rfl | (simp; done) | (simp [*]; done)), H', ⟨by have := HJ6.out; first | omega | exact Nat.le_refl _⟩, ⟨by (with_reducible repeat (first | apply Kd.R_alloc | apply Kd.R_drewN | apply Kd.R_drew)); exact Kd.R_mono (Kd.R_far (p := ⟨gb347, 1, none⟩) (Kd.R_far (p := ⟨gb347, 0, none⟩) (Kd.R_types HO_4.out BK347.out (by decide)) (fun _ hk => hk.2) (.int .i64 t344)) (fun _ hk => hk.2) (.int .i64 t345)) (fun _ hk => hk.1.2)⟩, ⟨by (with_reducible repeat (first | apply Kd.R_alloc | apply Kd.R_drewN | apply Kd.R_drew)); exact Kd.R_mono (Kd.R_far (p := ⟨gb347, 1, none⟩) (Kd.R_far (p := ⟨gb347, 0, none⟩) (Kd.R_types HO332.out BK347.out (by decide)) (fun _ hk => hk.2) (.int .i64 t344)) (fun _ hk => hk.2) (.int .i64 t345)) (fun _ hk => hk.1.2)⟩, ⟨by (with_reducible repeat (first | refine blk_drewN ?_ _ | refine blk_drew ?_ | refine blk_alloc ?_ _)); refine blk_far ?_ NB306_347.out _; (with_reducible repeat (first | refine blk_drewN ?_ _ | refine blk_drew ?_ | refine blk_alloc ?_ _)); refine blk_far ?_ NB306_347.out _; (with_reducible repeat (first | refine blk_drewN ?_ _ | refine blk_drew ?_ | refine blk_alloc ?_ _)); exact BK306.out⟩, ⟨by (with_reducible repeat (first | refine blk_drewN ?_ _ | refine blk_drew ?_ | refine blk_alloc ?_ _)); refine blk_far ?_ NB327_347.out _; (with_reducible repeat (first | refine blk_drewN ?_ _ | refine blk_drew ?_ | refine blk_alloc ?_ _)); refine blk_far ?_ NB327_347.out _; (with_reducible repeat (first | refine blk_drewN ?_ _ | refine blk_drew ?_ | refine blk_alloc ?_ _)); exact BK327.out⟩, ⟨by (with_reducible repeat (first | refine blk_drewN ?_ _ | refine blk_drew ?_ | refine blk_alloc ?_ _)); refine blk_far ?_ NB340_347.out _; (with_reducible repeat (first | refine blk_drewN ?_ _ | refine blk_drew ?_ | refine blk_alloc ?_ _)); refine blk_far ?_ NB340_347.out _; (with_reducible repeat (first | refine blk_drewN ?_ _ | refine blk_drew ?_ | refine blk_alloc ?_ _)); exact BK340.out⟩, ⟨by (with_reducible repeat (first | refine blk_drewN ?_ _ | refine blk_drew ?_ | refine blk_alloc ?_ _)); refine blk_put (cs := #[.int .i64 t344, .int .i64 0]) ?_ 1 _ rfl; (with_reducible repeat (first | refine blk_drewN ?_ _ | refine blk_drew ?_ | refine blk_alloc ?_ _)); refine blk_put (cs := #[.int .i64 0, .int .i64 0]) ?_ 0 _ rfl; (with_reducible repeat (first | refine blk_drewN ?_ _ | refine blk_drew ?_ | refine blk_alloc ?_ _)); exact BK347.out⟩, ⟨by repeat (first | (with_reducible first | exact HB.out | apply below_alloc | apply pw_below_drewN | apply below_drew1 | refine below_set ?_ GE306.out | refine below_set ?_ GE327.out | refine below_set ?_ GE340.out | refine below_set ?_ GE347.out) | exact HB.out)⟩⟩
          case rest =>
            as_aux_lemma =>
              clear HC46
              try clear c1
              try clear p2
              try clear c3
              try clear c4
              try clear c5
              try clear c6
              try clear c7
              try clear c8
              try clear c9
              try clear c10
              try clear c11
              try clear c12
              try clear c13
              try clear c14
              try clear c15
              try clear c16
              try clear c17
              try clear c18
              try clear c19
              try clear c30
              try clear c31
              try clear c34
              try clear c35
              try clear c40
              try clear c40b0
              try clear c40b1
              try clear c47
              try clear c59
              try clear c60
              try clear c67
              try clear c68
              try clear c69
              try clear c71
              try clear c71b0
              try clear c71b1
              try clear hcz12_0
              try clear hcz12_1
              try clear hcz32_0
              try clear hcz32_1
              try clear hcz36_0
              try clear hcz36_1
              try clear hcz48_0
              try clear hcz48_1
              try clear hcz51_0
              try clear hcz51_1
              try clear hcz53_0
              try clear hcz53_1
              try clear hcz54_0
              try clear hcz54_1
              try clear hcz56_0
              try clear hcz56_1
              try clear hcz61_0
              try clear hcz61_1
              try clear hcz62_0
              try clear hcz62_1
              try clear hcz64_0
              try clear hcz64_1
              try clear hcz70_0
              try clear hcz70_1
              try clear hfz12_0
              try clear hfz12_1
              try clear hfz32_0
              try clear hfz32_1
              try clear hfz36_0
              try clear hfz36_1
              try clear hfz48_0
              try clear hfz48_1
              try clear hfz51_0
              try clear hfz51_1
              try clear hfz53_0
              try clear hfz53_1
              try clear hfz54_0
              try clear hfz54_1
              try clear hfz56_0
              try clear hfz56_1
              try clear hfz61_0
              try clear hfz61_1
              try clear hfz62_0
              try clear hfz62_1
              try clear hfz64_0
              try clear hfz64_1
              try clear hfz70_0
              try clear hfz70_1
              try clear p2
              obtain ⟨kq, x22_45, x23_45, x24_45, x25_45, rfl, rfl, rfl, rfl, HA, HJ45, HO_4, HO_10, BK306, BK327, BK340, BK347, HB⟩ := hcut
              cases kq with
              | zero => exact absurd HA.out (by simp [pilelaw1_HoursCounted.j1])
              | succ kj45 =>
                have H := HA.out; clear HA
                simp only [pilelaw1_HoursCounted.j1] at H
                have HC85 := Aside0.mk H; clear H
                go_upto_if 117 with (first | ((with_reducible refine gate_dst (N := 31) rfl ?_); refine box_event ?hg (N := 31) ?hd (cs := #[.int .i64 0, .int .i64 0]) (t := 38) ?hr ?_; (case hd => rfl); (case hg => rfl); (case hr => first | (go_simp; done) | (go_simp; rfl)); intro gb357 hg w86 hbox hb; have n0_ := Aside0.mk (Kd.R_below (Kd.R_up HO_4.out) hb); have n1_ := Aside0.mk (Kd.R_below (Kd.R_up HO_10.out) hb); have n2_ := Aside0.mk (blk_below (g := gb306) (o := .cells #[.int .i64 t303, .int .i64 t304] 27 (0, 0)) (blk_up BK306.out) hb); have n3_ := Aside0.mk (blk_below (g := gb327) (o := .cells #[.int .i64 t310, .int .i64 t315] 27 (0, 0)) (blk_up BK327.out) hb); have n4_ := Aside0.mk (blk_below (g := gb340) (o := .cells #[.int .i64 t336, .int .i64 t337] 38 (0, 0)) (blk_up BK340.out) hb); have n5_ := Aside0.mk (blk_below (g := gb347) (o := .cells #[.int .i64 t344, .int .i64 t345] 27 (0, 0)) (blk_up BK347.out) hb); have n6_ := Aside0.mk (below_step (by repeat (first | (with_reducible first | exact HB.out | apply below_alloc | apply pw_below_drewN | apply below_drew1 | refine below_set ?_ GE306.out | refine below_set ?_ GE327.out | refine below_set ?_ GE340.out | refine below_set ?_ GE347.out) | exact HB.out)) hb); have n7_ := Aside0.mk (hbox); have n8_ := Aside0.mk ((by rw [hg]; exact (below_size (by repeat (first | (with_reducible first | exact HB.out | apply below_alloc | apply pw_below_drewN | apply below_drew1 | refine below_set ?_ GE306.out | refine below_set ?_ GE327.out | refine below_set ?_ GE340.out | refine below_set ?_ GE347.out) | exact HB.out))) : w.heap.size ≤ gb357)); have n9_ := Aside0.mk ((by rw [hg]; exact (below_size (by repeat (first | (with_reducible first | exact HB.out | apply below_alloc | apply pw_below_drewN | apply below_drew1 | refine below_set ?_ GE306.out | refine below_set ?_ GE327.out | refine below_set ?_ GE340.out | refine below_set ?_ GE347.out) | exact HB.out))) : w.heap.size ≤ gb357)); have n10_ := Aside0.mk ((by rw [hg]; exact Nat.ne_of_lt (blk_lt (g := gb306) (o := .cells #[.int .i64 t303, .int .i64 t304] 27 (0, 0)) (blk_up BK306.out)) : gb306 ≠ gb357)); have n11_ := Aside0.mk ((by rw [hg]; exact Nat.ne_of_gt (blk_lt (g := gb306) (o := .cells #[.int .i64 t303, .int .i64 t304] 27 (0, 0)) (blk_up BK306.out)) : gb357 ≠ gb306)); have n12_ := Aside0.mk ((by rw [hg]; exact Nat.ne_of_lt (blk_lt (g := gb327) (o := .cells #[.int .i64 t310, .int .i64 t315] 27 (0, 0)) (blk_up BK327.out)) : gb327 ≠ gb357)); have n13_ := Aside0.mk ((by rw [hg]; exact Nat.ne_of_gt (blk_lt (g := gb327) (o := .cells #[.int .i64 t310, .int .i64 t315] 27 (0, 0)) (blk_up BK327.out)) : gb357 ≠ gb327)); have n14_ := Aside0.mk ((by rw [hg]; exact Nat.ne_of_lt (blk_lt (g := gb340) (o := .cells #[.int .i64 t336, .int .i64 t337] 38 (0, 0)) (blk_up BK340.out)) : gb340 ≠ gb357)); have n15_ := Aside0.mk ((by rw [hg]; exact Nat.ne_of_gt (blk_lt (g := gb340) (o := .cells #[.int .i64 t336, .int .i64 t337] 38 (0, 0)) (blk_up BK340.out)) : gb357 ≠ gb340)); have n16_ := Aside0.mk ((by rw [hg]; exact Nat.ne_of_lt (blk_lt (g := gb347) (o := .cells #[.int .i64 t344, .int .i64 t345] 27 (0, 0)) (blk_up BK347.out)) : gb347 ≠ gb357)); have n17_ := Aside0.mk ((by rw [hg]; exact Nat.ne_of_gt (blk_lt (g := gb347) (o := .cells #[.int .i64 t344, .int .i64 t345] 27 (0, 0)) (blk_up BK347.out)) : gb357 ≠ gb347)); clear HO_4; clear HO_10; clear BK306; clear BK327; clear BK340; clear BK347; clear HB; have HO_4 := n0_; have HO_10 := n1_; have BK306 := n2_; have BK327 := n3_; have BK340 := n4_; have BK347 := n5_; have HB := n6_; have BK357 := n7_; have GW357 := n8_; have GE357 := n9_; have NB306_357 := n10_; have NB357_306 := n11_; have NB327_357 := n12_; have NB357_327 := n13_; have NB340_357 := n14_; have NB357_340 := n15_; have NB347_357 := n16_; have NB357_347 := n17_; clear n0_ n1_ n2_ n3_ n4_ n5_ n6_ n7_ n8_ n9_ n10_ n11_ n12_ n13_ n14_ n15_ n16_ n17_; clear hb hbox hg) | ((with_reducible refine gate_dst (N := 32) rfl ?_); refine box_event ?hg (N := 32) ?hd (cs := #[.int .i64 0, .int .i64 0]) (t := 27) ?hr ?_; (case hd => rfl); (case hg => rfl); (case hr => first | (go_simp; done) | (go_simp; rfl)); intro gb358 hg w87 hbox hb; have n0_ := Aside0.mk (Kd.R_below (Kd.R_up HO_4.out) hb); have n1_ := Aside0.mk (Kd.R_below (Kd.R_up HO_10.out) hb); have n2_ := Aside0.mk (blk_below (g := gb306) (o := .cells #[.int .i64 t303, .int .i64 t304] 27 (0, 0)) (blk_up BK306.out) hb); have n3_ := Aside0.mk (blk_below (g := gb327) (o := .cells #[.int .i64 t310, .int .i64 t315] 27 (0, 0)) (blk_up BK327.out) hb); have n4_ := Aside0.mk (blk_below (g := gb340) (o := .cells #[.int .i64 t336, .int .i64 t337] 38 (0, 0)) (blk_up BK340.out) hb); have n5_ := Aside0.mk (blk_below (g := gb347) (o := .cells #[.int .i64 t344, .int .i64 t345] 27 (0, 0)) (blk_up BK347.out) hb); have n6_ := Aside0.mk (blk_below (g := gb357) (o := .cells #[.int .i64 0, .int .i64 0] 38 (0, 0)) (blk_up BK357.out) hb); have n7_ := Aside0.mk (below_step (by repeat (first | (with_reducible first | exact HB.out | apply below_alloc | apply pw_below_drewN | apply below_drew1 | refine below_set ?_ GE306.out | refine below_set ?_ GE327.out | refine below_set ?_ GE340.out | refine below_set ?_ GE347.out | refine below_set ?_ GE357.out) | exact HB.out)) hb); have n8_ := Aside0.mk (hbox); have n9_ := Aside0.mk ((by rw [hg]; exact (below_size (by repeat (first | (with_reducible first | exact HB.out | apply below_alloc | apply pw_below_drewN | apply below_drew1 | refine below_set ?_ GE306.out | refine below_set ?_ GE327.out | refine below_set ?_ GE340.out | refine below_set ?_ GE347.out | refine below_set ?_ GE357.out) | exact HB.out))) : w.heap.size ≤ gb358)); have n10_ := Aside0.mk ((by rw [hg]; exact (below_size (by repeat (first | (with_reducible first | exact HB.out | apply below_alloc | apply pw_below_drewN | apply below_drew1 | refine below_set ?_ GE306.out | refine below_set ?_ GE327.out | refine below_set ?_ GE340.out | refine below_set ?_ GE347.out | refine below_set ?_ GE357.out) | exact HB.out))) : w.heap.size ≤ gb358)); have n11_ := Aside0.mk ((by rw [hg]; exact Nat.ne_of_lt (blk_lt (g := gb306) (o := .cells #[.int .i64 t303, .int .i64 t304] 27 (0, 0)) (blk_up BK306.out)) : gb306 ≠ gb358)); have n12_ := Aside0.mk ((by rw [hg]; exact Nat.ne_of_gt (blk_lt (g := gb306) (o := .cells #[.int .i64 t303, .int .i64 t304] 27 (0, 0)) (blk_up BK306.out)) : gb358 ≠ gb306)); have n13_ := Aside0.mk ((by rw [hg]; exact Nat.ne_of_lt (blk_lt (g := gb327) (o := .cells #[.int .i64 t310, .int .i64 t315] 27 (0, 0)) (blk_up BK327.out)) : gb327 ≠ gb358)); have n14_ := Aside0.mk ((by rw [hg]; exact Nat.ne_of_gt (blk_lt (g := gb327) (o := .cells #[.int .i64 t310, .int .i64 t315] 27 (0, 0)) (blk_up BK327.out)) : gb358 ≠ gb327)); have n15_ := Aside0.mk ((by rw [hg]; exact Nat.ne_of_lt (blk_lt (g := gb340) (o := .cells #[.int .i64 t336, .int .i64 t337] 38 (0, 0)) (blk_up BK340.out)) : gb340 ≠ gb358)); have n16_ := Aside0.mk ((by rw [hg]; exact Nat.ne_of_gt (blk_lt (g := gb340) (o := .cells #[.int .i64 t336, .int .i64 t337] 38 (0, 0)) (blk_up BK340.out)) : gb358 ≠ gb340)); have n17_ := Aside0.mk ((by rw [hg]; exact Nat.ne_of_lt (blk_lt (g := gb347) (o := .cells #[.int .i64 t344, .int .i64 t345] 27 (0, 0)) (blk_up BK347.out)) : gb347 ≠ gb358)); have n18_ := Aside0.mk ((by rw [hg]; exact Nat.ne_of_gt (blk_lt (g := gb347) (o := .cells #[.int .i64 t344, .int .i64 t345] 27 (0, 0)) (blk_up BK347.out)) : gb358 ≠ gb347)); have n19_ := Aside0.mk ((by rw [hg]; exact Nat.ne_of_lt (blk_lt (g := gb357) (o := .cells #[.int .i64 0, .int .i64 0] 38 (0, 0)) (blk_up BK357.out)) : gb357 ≠ gb358)); have n20_ := Aside0.mk ((by rw [hg]; exact Nat.ne_of_gt (blk_lt (g := gb357) (o := .cells #[.int .i64 0, .int .i64 0] 38 (0, 0)) (blk_up BK357.out)) : gb358 ≠ gb357)); clear HO_4; clear HO_10; clear BK306; clear BK327; clear BK340; clear BK347; clear BK357; clear HB; have HO_4 := n0_; have HO_10 := n1_; have BK306 := n2_; have BK327 := n3_; have BK340 := n4_; have BK347 := n5_; have BK357 := n6_; have HB := n7_; have BK358 := n8_; have GW358 := n9_; have GE358 := n10_; have NB306_358 := n11_; have NB358_306 := n12_; have NB327_358 := n13_; have NB358_327 := n14_; have NB340_358 := n15_; have NB358_340 := n16_; have NB347_358 := n17_; have NB358_347 := n18_; have NB357_358 := n19_; have NB358_357 := n20_; clear n0_ n1_ n2_ n3_ n4_ n5_ n6_ n7_ n8_ n9_ n10_ n11_ n12_ n13_ n14_ n15_ n16_ n17_ n18_ n19_ n20_; clear hb hbox hg))
                (try simp only [Act.put, List.setIfInBounds_toArray, List.set_cons_zero, List.set_cons_succ])
                go_cut [26] (fun v26 wc => ∃ (kq : Nat) (x26_84 : List Int), Aside0 (pilelaw1_HoursCounted.j2 kq t300 t320 t325 x9_6 t330 t333 t334 t335 t338 t339 t341 t342 t343 t346 x22_45 x23_45 x24_45 x25_45 x26_84 0 0 0 false t303 t304 t310 t315 t336 t337 t344 t345 0 0 0 0 = some r) ∧ Aside0 (kq ≤ kj45) ∧ Aside0 (Kd.R (Kd.int .i64) 3 wc w.heap.size (fun k_ => some k_ ≠ (v331 : Value).ownBlock ∧ some k_ ≠ (v26 : Value).ownBlock) (.slice Ao49 t300.length co49) t300) ∧ Aside0 (Kd.R (Kd.int .i64) 3 wc w.heap.size (fun k_ => some k_ ≠ ((.slice Ao49 t300.length co49) : Value).ownBlock ∧ some k_ ≠ (v26 : Value).ownBlock) v331 t330) ∧ Aside0 (Kd.R (Kd.int .i64) 3 wc w.heap.size (fun k_ => some k_ ≠ ((.slice Ao49 t300.length co49) : Value).ownBlock ∧ some k_ ≠ (v331 : Value).ownBlock) v26 x26_84) ∧ Aside0 (wc.heap[gb306]? = some (.cells #[.int .i64 t303, .int .i64 t304] 27 (0, 0))) ∧ Aside0 (wc.heap[gb327]? = some (.cells #[.int .i64 t310, .int .i64 t315] 27 (0, 0))) ∧ Aside0 (wc.heap[gb340]? = some (.cells #[.int .i64 t336, .int .i64 t337] 38 (0, 0))) ∧ Aside0 (wc.heap[gb347]? = some (.cells #[.int .i64 t344, .int .i64 t345] 27 (0, 0))) ∧ Aside0 (wc.heap[gb357]? = some (.cells #[.int .i64 0, .int .i64 0] 38 (0, 0))) ∧ Aside0 (wc.heap[gb358]? = some (.cells #[.int .i64 0, .int .i64 0] 27 (0, 0))) ∧ Aside0 (Below w.heap.size w wc))
                case first =>
                  have H := HC85.out; clear HC85
                  by_cases c88 : x22_45 = 0
                  · rw [if_pos c88] at H
                    have c88b0 : (x22_45 == 0) = true := beq_iff_eq.mpr c88; have c88b1 : (x22_45 != 0) = false := bne_eq_false_iff_eq.mpr c88; clear c88
                    (first | rw [c88b0] | (simp only [i64_w, i32_w]; rw [c88b0]) | skip)
                    replace H := Option.bind_eq_some_iff.mp H; obtain ⟨t359, A890, H⟩ := H; replace H : (pilelaw1_HoursCounted.j2 kj45 t300 t320 t325 x9_6 t330 t333 t334 t335 t338 t339 t341 t342 t343 t346 x22_45 x23_45 x24_45 x25_45 t359 0 0 0 false t303 t304 t310 t315 t336 t337 t344 t345 0 0 0 0) = some r := H; have A89 := Aside0.mk A890; clear A890
                    as_aux_lemma =>
                      have H' := Aside0.mk H; clear H; have hnb90 := NB306_327.out; have hnc90 := NB327_306.out; have hnb91 := NB306_340.out; have hnc91 := NB340_306.out; have hnb92 := NB306_347.out; have hnc92 := NB347_306.out; have hnb93 := NB306_357.out; have hnc93 := NB357_306.out; have hnb94 := NB306_358.out; have hnc94 := NB358_306.out; have hcz95_0 : w87.cell? ⟨gb306, 0, none⟩ = some (.int .i64 t303) := (blk_cell BK306.out 0).trans rfl; have hcz95_1 : w87.cell? ⟨gb306, 1, none⟩ = some (.int .i64 t304) := (blk_cell BK306.out 1).trans rfl; have hfz95_0 := blk_frozen BK306.out 0; have hfz95_1 := blk_frozen BK306.out 1
                      go_wp2_with (first | ((with_reducible refine gate_callee (f := 20) rfl ?_); refine goesL_ (some 120) rfl rfl Try.func20 (by kernel_rfl) rfl #[.slice Ao49 t300.length co49, .agg #[.int .i64 t303, .int .i64 t304]] rfl (by (try simp only [List.map_toArray, List.map_cons, List.map_nil]); first | done | rfl | (simp only [List.length_drop, List.length_take]; rfl)) ?_; (with_reducible refine (pileref1_HoursOf.calls kj45 _ _ t300 t303 t304 t359 _ ?side1 ?side2 A89.out).mono ?_); (case side1 => repeat (first | exact (Kd.R_reads' HO_4.out).2.2 | (with_reducible refine Kd.C_alloc ?_ _) | (with_reducible refine Kd.C_drewN ?_ _) | (with_reducible refine Kd.C_drew ?_))); (case side2 => exact (Kd.R_reads' HO_4.out).2.1); rintro e w96 ⟨v360, rfl, ho0, hb⟩; refine ⟨_, rfl, ?_⟩; have n0_ := Aside0.mk (Kd.R_elder' (Kd.R_up HO_4.out) (Kd.R_base ho0) hb); have n1_ := Aside0.mk (Kd.R_elder' (Kd.R_up HO_10.out) (Kd.R_base ho0) hb); have n2_ := Aside0.mk (Kd.R_lower (Kd.R_new' (Kd.R_new' ho0 (Kd.R_lt (Kd.R_up HO_4.out))) (Kd.R_lt (Kd.R_up HO_10.out))) (below_size (by repeat (first | (with_reducible first | exact HB.out | apply below_alloc | apply pw_below_drewN | apply below_drew1 | refine below_set ?_ GE306.out | refine below_set ?_ GE327.out | refine below_set ?_ GE340.out | refine below_set ?_ GE347.out | refine below_set ?_ GE357.out | refine below_set ?_ GE358.out) | exact HB.out)))); have n3_ := Aside0.mk (blk_below (g := gb306) (o := .cells #[.int .i64 t303, .int .i64 t304] 27 (0, 0)) (blk_up BK306.out) hb); have n4_ := Aside0.mk (blk_below (g := gb327) (o := .cells #[.int .i64 t310, .int .i64 t315] 27 (0, 0)) (blk_up BK327.out) hb); have n5_ := Aside0.mk (blk_below (g := gb340) (o := .cells #[.int .i64 t336, .int .i64 t337] 38 (0, 0)) (blk_up BK340.out) hb); have n6_ := Aside0.mk (blk_below (g := gb347) (o := .cells #[.int .i64 t344, .int .i64 t345] 27 (0, 0)) (blk_up BK347.out) hb); have n7_ := Aside0.mk (blk_below (g := gb357) (o := .cells #[.int .i64 0, .int .i64 0] 38 (0, 0)) (blk_up BK357.out) hb); have n8_ := Aside0.mk (blk_below (g := gb358) (o := .cells #[.int .i64 0, .int .i64 0] 27 (0, 0)) (blk_up BK358.out) hb); have n9_ := Aside0.mk (below_step (by repeat (first | (with_reducible first | exact HB.out | apply below_alloc | apply pw_below_drewN | apply below_drew1 | refine below_set ?_ GE306.out | refine below_set ?_ GE327.out | refine below_set ?_ GE340.out | refine below_set ?_ GE347.out | refine below_set ?_ GE357.out | refine below_set ?_ GE358.out) | exact HB.out)) hb); clear HO_4; clear HO_10; clear BK306; clear BK327; clear BK340; clear BK347; clear BK357; clear BK358; clear HB; have HO_4 := n0_; have HO_10 := n1_; have HO361 := n2_; have BK306 := n3_; have BK327 := n4_; have BK340 := n5_; have BK347 := n6_; have BK357 := n7_; have BK358 := n8_; have HB := n9_; clear n0_ n1_ n2_ n3_ n4_ n5_ n6_ n7_ n8_ n9_; (try clear hb); (try clear hb2); (try clear hk); (try clear hi); (try clear ho0)))
                      go_meet
                      case rel => exact ⟨_, (t359), H', ⟨by have := HJ6.out; have := HJ45.out; first | omega | exact Nat.le_refl _⟩, ⟨by (with_reducible repeat (first | apply Kd.R_alloc | apply Kd.R_drewN | apply Kd.R_drew)); exact HO_4.out⟩, ⟨by (with_reducible repeat (first | apply Kd.R_alloc | apply Kd.R_drewN | apply Kd.R_drew)); exact HO_10.out⟩, ⟨by (with_reducible repeat (first | apply Kd.R_alloc | apply Kd.R_drewN | apply Kd.R_drew)); exact Kd.R_mono HO361.out (fun _ hk => ⟨hk.1.2, hk.2⟩)⟩, ⟨by (with_reducible repeat (first | refine blk_drewN ?_ _ | refine blk_drew ?_ | refine blk_alloc ?_ _)); exact BK306.out⟩, ⟨by (with_reducible repeat (first | refine blk_drewN ?_ _ | refine blk_drew ?_ | refine blk_alloc ?_ _)); exact BK327.out⟩, ⟨by (with_reducible repeat (first | refine blk_drewN ?_ _ | refine blk_drew ?_ | refine blk_alloc ?_ _)); exact BK340.out⟩, ⟨by (with_reducible repeat (first | refine blk_drewN ?_ _ | refine blk_drew ?_ | refine blk_alloc ?_ _)); exact BK347.out⟩, ⟨by (with_reducible repeat (first | refine blk_drewN ?_ _ | refine blk_drew ?_ | refine blk_alloc ?_ _)); exact BK357.out⟩, ⟨by (with_reducible repeat (first | refine blk_drewN ?_ _ | refine blk_drew ?_ | refine blk_alloc ?_ _)); exact BK358.out⟩, ⟨by repeat (first | (with_reducible first | exact HB.out | apply below_alloc | apply pw_below_drewN | apply below_drew1 | refine below_set ?_ GE306.out | refine below_set ?_ GE327.out | refine below_set ?_ GE340.out | refine below_set ?_ GE347.out | refine below_set ?_ GE357.out | refine below_set ?_ GE358.out) | exact HB.out)⟩⟩
                  · rw [if_neg c88] at H
                    have c88b0 : (x22_45 == 0) = false := beq_eq_false_iff_ne.mpr c88; have c88b1 : (x22_45 != 0) = true := bne_iff_ne.mpr c88
                    (first | rw [c88b0] | (simp only [i64_w, i32_w]; rw [c88b0]) | skip)
                    as_aux_lemma =>
                      have H' := Aside0.mk H; clear H
                      go_wp2
                      go_meet
                      case rel => exact ⟨_, (([] : List Int)), H', ⟨by have := HJ6.out; have := HJ45.out; first | omega | exact Nat.le_refl _⟩, ⟨by (with_reducible repeat (first | apply Kd.R_alloc | apply Kd.R_drewN | apply Kd.R_drew)); exact Kd.R_mono HO_4.out (fun _ hk => ⟨hk, (by simp [Value.ownBlock])⟩)⟩, ⟨by (with_reducible repeat (first | apply Kd.R_alloc | apply Kd.R_drewN | apply Kd.R_drew)); exact Kd.R_mono HO_10.out (fun _ hk => ⟨hk, (by simp [Value.ownBlock])⟩)⟩, ⟨by first | exact Kd.R_nil _ _ _ _ _ | exact Kd.N_nil _ _ _ _ _ | exact Kd.V_nil _ _ _ _ _ | exact Kd.Q_nil _ _ _ _ _ | exact Kd.S_nil _ _ _ _ _⟩, ⟨by (with_reducible repeat (first | refine blk_drewN ?_ _ | refine blk_drew ?_ | refine blk_alloc ?_ _)); exact BK306.out⟩, ⟨by (with_reducible repeat (first | refine blk_drewN ?_ _ | refine blk_drew ?_ | refine blk_alloc ?_ _)); exact BK327.out⟩, ⟨by (with_reducible repeat (first | refine blk_drewN ?_ _ | refine blk_drew ?_ | refine blk_alloc ?_ _)); exact BK340.out⟩, ⟨by (with_reducible repeat (first | refine blk_drewN ?_ _ | refine blk_drew ?_ | refine blk_alloc ?_ _)); exact BK347.out⟩, ⟨by (with_reducible repeat (first | refine blk_drewN ?_ _ | refine blk_drew ?_ | refine blk_alloc ?_ _)); exact BK357.out⟩, ⟨by (with_reducible repeat (first | refine blk_drewN ?_ _ | refine blk_drew ?_ | refine blk_alloc ?_ _)); exact BK358.out⟩, ⟨by repeat (first | (with_reducible first | exact HB.out | apply below_alloc | apply pw_below_drewN | apply below_drew1 | refine below_set ?_ GE306.out | refine below_set ?_ GE327.out | refine below_set ?_ GE340.out | refine below_set ?_ GE347.out | refine below_set ?_ GE357.out | refine below_set ?_ GE358.out) | exact HB.out)⟩⟩
                case rest =>
                  as_aux_lemma =>
                    clear HC85
                    try clear c1
                    try clear c2
                    try clear p2
                    try clear c3
                    try clear c4
                    try clear c5
                    try clear c6
                    try clear c7
                    try clear c8
                    try clear c9
                    try clear c10
                    try clear c11
                    try clear c12
                    try clear c13
                    try clear c14
                    try clear c15
                    try clear c16
                    try clear c17
                    try clear c18
                    try clear c19
                    try clear c20
                    try clear c30
                    try clear c31
                    try clear c34
                    try clear c35
                    try clear c40
                    try clear c40b0
                    try clear c40b1
                    try clear c47
                    try clear c59
                    try clear c60
                    try clear c67
                    try clear c68
                    try clear c69
                    try clear c71
                    try clear c71b0
                    try clear c71b1
                    try clear c88
                    try clear c88b0
                    try clear c88b1
                    try clear c90
                    try clear c91
                    try clear c92
                    try clear c93
                    try clear c94
                    try clear hcz12_0
                    try clear hcz12_1
                    try clear hcz32_0
                    try clear hcz32_1
                    try clear hcz36_0
                    try clear hcz36_1
                    try clear hcz48_0
                    try clear hcz48_1
                    try clear hcz51_0
                    try clear hcz51_1
                    try clear hcz53_0
                    try clear hcz53_1
                    try clear hcz54_0
                    try clear hcz54_1
                    try clear hcz56_0
                    try clear hcz56_1
                    try clear hcz61_0
                    try clear hcz61_1
                    try clear hcz62_0
                    try clear hcz62_1
                    try clear hcz64_0
                    try clear hcz64_1
                    try clear hcz70_0
                    try clear hcz70_1
                    try clear hcz95_0
                    try clear hcz95_1
                    try clear hfz12_0
                    try clear hfz12_1
                    try clear hfz32_0
                    try clear hfz32_1
                    try clear hfz36_0
                    try clear hfz36_1
                    try clear hfz48_0
                    try clear hfz48_1
                    try clear hfz51_0
                    try clear hfz51_1
                    try clear hfz53_0
                    try clear hfz53_1
                    try clear hfz54_0
                    try clear hfz54_1
                    try clear hfz56_0
                    try clear hfz56_1
                    try clear hfz61_0
                    try clear hfz61_1
                    try clear hfz62_0
                    try clear hfz62_1
                    try clear hfz64_0
                    try clear hfz64_1
                    try clear hfz70_0
                    try clear hfz70_1
                    try clear hfz95_0
                    try clear hfz95_1
                    try clear p2
                    obtain ⟨kq, x26_84, HA, HJ84, HO_4, HO_10, HO_26, BK306, BK327, BK340, BK347, BK357, BK358, HB⟩ := hcut
                    cases kq with
                    | zero => exact absurd HA.out (by simp [pilelaw1_HoursCounted.j2])
                    | succ kj84 =>
                      have H := HA.out; clear HA
                      simp only [pilelaw1_HoursCounted.j2] at H
                      have HC97 := Aside0.mk H; clear H
                      go_upto_if 122 with (fail)
                      go_cut [27] (fun v27 wc => ∃ (kq : Nat) (x27_96 : Int), v27 = .int .i64 x27_96 ∧ Aside0 (pilelaw1_HoursCounted.j3 kq t300 t320 t325 x9_6 t330 t333 t334 t335 t338 t339 t341 t342 t343 t346 x22_45 x23_45 x24_45 x25_45 x26_84 x27_96 0 0 false t303 t304 t336 t337 t344 t345 0 0 0 0 = some r) ∧ Aside0 (kq ≤ kj84) ∧ Aside0 (Kd.R (Kd.int .i64) 3 wc w.heap.size (fun k_ => some k_ ≠ (v331 : Value).ownBlock ∧ some k_ ≠ (u26 : Value).ownBlock) (.slice Ao49 t300.length co49) t300) ∧ Aside0 (Kd.R (Kd.int .i64) 3 wc w.heap.size (fun k_ => some k_ ≠ ((.slice Ao49 t300.length co49) : Value).ownBlock ∧ some k_ ≠ (u26 : Value).ownBlock) v331 t330) ∧ Aside0 (Kd.R (Kd.int .i64) 3 wc w.heap.size (fun k_ => some k_ ≠ ((.slice Ao49 t300.length co49) : Value).ownBlock ∧ some k_ ≠ (v331 : Value).ownBlock) u26 x26_84) ∧ Aside0 (wc.heap[gb306]? = some (.cells #[.int .i64 t303, .int .i64 t304] 27 (0, 0))) ∧ Aside0 (wc.heap[gb327]? = some (.cells #[.int .i64 t310, .int .i64 t315] 27 (0, 0))) ∧ Aside0 (wc.heap[gb340]? = some (.cells #[.int .i64 t336, .int .i64 t337] 38 (0, 0))) ∧ Aside0 (wc.heap[gb347]? = some (.cells #[.int .i64 t344, .int .i64 t345] 27 (0, 0))) ∧ Aside0 (wc.heap[gb357]? = some (.cells #[.int .i64 0, .int .i64 0] 38 (0, 0))) ∧ Aside0 (wc.heap[gb358]? = some (.cells #[.int .i64 0, .int .i64 0] 27 (0, 0))) ∧ Aside0 (Below w.heap.size w wc))
                      case first =>
                        have H := HC97.out; clear HC97
                        by_cases c98 : x23_45 = 0
                        · rw [if_pos c98] at H
                          have c98b0 : (x23_45 == 0) = true := beq_iff_eq.mpr c98; have c98b1 : (x23_45 != 0) = false := bne_eq_false_iff_eq.mpr c98; clear c98
                          (first | rw [c98b0] | (simp only [i64_w, i32_w]; rw [c98b0]) | skip)
                          replace H := Option.bind_eq_some_iff.mp H; obtain ⟨t362, A990, H⟩ := H; replace H : (pilelaw1_HoursCounted.j3 kj84 t300 t320 t325 x9_6 t330 t333 t334 t335 t338 t339 t341 t342 t343 t346 x22_45 x23_45 x24_45 x25_45 x26_84 t362 0 0 false t303 t304 t336 t337 t344 t345 0 0 0 0) = some r := H; have A99 := Aside0.mk A990; clear A990
                          as_aux_lemma =>
                            have H' := Aside0.mk H; clear H; have hnb100 := NB327_306.out; have hnc100 := NB306_327.out; have hnb101 := NB327_340.out; have hnc101 := NB340_327.out; have hnb102 := NB327_347.out; have hnc102 := NB347_327.out; have hnb103 := NB327_357.out; have hnc103 := NB357_327.out; have hnb104 := NB327_358.out; have hnc104 := NB358_327.out; have hcz105_0 : wc.cell? ⟨gb327, 0, none⟩ = some (.int .i64 t310) := (blk_cell BK327.out 0).trans rfl; have hcz105_1 : wc.cell? ⟨gb327, 1, none⟩ = some (.int .i64 t315) := (blk_cell BK327.out 1).trans rfl; have hfz105_0 := blk_frozen BK327.out 0; have hfz105_1 := blk_frozen BK327.out 1
                            go_wp2_with (first | ((with_reducible refine gate_callee (f := 21) rfl ?_); refine goesL_ (some 125) rfl rfl Try.func21 (by kernel_rfl) rfl #[.slice Ao49 t300.length co49, .agg #[.int .i64 t310, .int .i64 t315]] rfl (by (try simp only [List.map_toArray, List.map_cons, List.map_nil]); first | done | rfl | (simp only [List.length_drop, List.length_take]; rfl)) ?_; (with_reducible refine (pileref1_InOf.calls kj84 _ _ t300 t310 t315 t362 _ ?side1 ?side2 A99.out).mono ?_); (case side1 => repeat (first | exact (Kd.R_reads' HO_4.out).2.2 | (with_reducible refine Kd.C_alloc ?_ _) | (with_reducible refine Kd.C_drewN ?_ _) | (with_reducible refine Kd.C_drew ?_))); (case side2 => exact (Kd.R_reads' HO_4.out).2.1); rintro e w106 ⟨rfl, hb⟩; refine ⟨_, rfl, ?_⟩; have n0_ := Aside0.mk (Kd.R_below (Kd.R_up HO_4.out) hb); have n1_ := Aside0.mk (Kd.R_below (Kd.R_up HO_10.out) hb); have n2_ := Aside0.mk (Kd.R_below (Kd.R_up HO_26.out) hb); have n3_ := Aside0.mk (blk_below (g := gb306) (o := .cells #[.int .i64 t303, .int .i64 t304] 27 (0, 0)) (blk_up BK306.out) hb); have n4_ := Aside0.mk (blk_below (g := gb327) (o := .cells #[.int .i64 t310, .int .i64 t315] 27 (0, 0)) (blk_up BK327.out) hb); have n5_ := Aside0.mk (blk_below (g := gb340) (o := .cells #[.int .i64 t336, .int .i64 t337] 38 (0, 0)) (blk_up BK340.out) hb); have n6_ := Aside0.mk (blk_below (g := gb347) (o := .cells #[.int .i64 t344, .int .i64 t345] 27 (0, 0)) (blk_up BK347.out) hb); have n7_ := Aside0.mk (blk_below (g := gb357) (o := .cells #[.int .i64 0, .int .i64 0] 38 (0, 0)) (blk_up BK357.out) hb); have n8_ := Aside0.mk (blk_below (g := gb358) (o := .cells #[.int .i64 0, .int .i64 0] 27 (0, 0)) (blk_up BK358.out) hb); have n9_ := Aside0.mk (below_step (by repeat (first | (with_reducible first | exact HB.out | apply below_alloc | apply pw_below_drewN | apply below_drew1 | refine below_set ?_ GE306.out | refine below_set ?_ GE327.out | refine below_set ?_ GE340.out | refine below_set ?_ GE347.out | refine below_set ?_ GE357.out | refine below_set ?_ GE358.out) | exact HB.out)) hb); clear HO_4; clear HO_10; clear HO_26; clear BK306; clear BK327; clear BK340; clear BK347; clear BK357; clear BK358; clear HB; have HO_4 := n0_; have HO_10 := n1_; have HO_26 := n2_; have BK306 := n3_; have BK327 := n4_; have BK340 := n5_; have BK347 := n6_; have BK357 := n7_; have BK358 := n8_; have HB := n9_; clear n0_ n1_ n2_ n3_ n4_ n5_ n6_ n7_ n8_ n9_; (try clear hb); (try clear hb2); (try clear hk); (try clear hi)))
                            go_meet
                            case rel => exact ⟨_, (t362), (by first | rfl | (simp; done) | (simp [*]; done)), H', ⟨by have := HJ6.out; have := HJ45.out; have := HJ84.out; first | omega | exact Nat.le_refl _⟩, ⟨by (with_reducible repeat (first | apply Kd.R_alloc | apply Kd.R_drewN | apply Kd.R_drew)); exact HO_4.out⟩, ⟨by (with_reducible repeat (first | apply Kd.R_alloc | apply Kd.R_drewN | apply Kd.R_drew)); exact HO_10.out⟩, ⟨by (with_reducible repeat (first | apply Kd.R_alloc | apply Kd.R_drewN | apply Kd.R_drew)); exact HO_26.out⟩, ⟨by (with_reducible repeat (first | refine blk_drewN ?_ _ | refine blk_drew ?_ | refine blk_alloc ?_ _)); exact BK306.out⟩, ⟨by (with_reducible repeat (first | refine blk_drewN ?_ _ | refine blk_drew ?_ | refine blk_alloc ?_ _)); exact BK327.out⟩, ⟨by (with_reducible repeat (first | refine blk_drewN ?_ _ | refine blk_drew ?_ | refine blk_alloc ?_ _)); exact BK340.out⟩, ⟨by (with_reducible repeat (first | refine blk_drewN ?_ _ | refine blk_drew ?_ | refine blk_alloc ?_ _)); exact BK347.out⟩, ⟨by (with_reducible repeat (first | refine blk_drewN ?_ _ | refine blk_drew ?_ | refine blk_alloc ?_ _)); exact BK357.out⟩, ⟨by (with_reducible repeat (first | refine blk_drewN ?_ _ | refine blk_drew ?_ | refine blk_alloc ?_ _)); exact BK358.out⟩, ⟨by repeat (first | (with_reducible first | exact HB.out | apply below_alloc | apply pw_below_drewN | apply below_drew1 | refine below_set ?_ GE306.out | refine below_set ?_ GE327.out | refine below_set ?_ GE340.out | refine below_set ?_ GE347.out | refine below_set ?_ GE357.out | refine below_set ?_ GE358.out) | exact HB.out)⟩⟩
                        · rw [if_neg c98] at H
                          have c98b0 : (x23_45 == 0) = false := beq_eq_false_iff_ne.mpr c98; have c98b1 : (x23_45 != 0) = true := bne_iff_ne.mpr c98
                          (first | rw [c98b0] | (simp only [i64_w, i32_w]; rw [c98b0]) | skip)
                          as_aux_lemma =>
                            have H' := Aside0.mk H; clear H
                            go_wp2
                            go_meet
                            case rel => exact ⟨_, (0), (by first | rfl | (simp; done) | (simp [*]; done)), H', ⟨by have := HJ6.out; have := HJ45.out; have := HJ84.out; first | omega | exact Nat.le_refl _⟩, ⟨by (with_reducible repeat (first | apply Kd.R_alloc | apply Kd.R_drewN | apply Kd.R_drew)); exact HO_4.out⟩, ⟨by (with_reducible repeat (first | apply Kd.R_alloc | apply Kd.R_drewN | apply Kd.R_drew)); exact HO_10.out⟩, ⟨by (with_reducible repeat (first | apply Kd.R_alloc | apply Kd.R_drewN | apply Kd.R_drew)); exact HO_26.out⟩, ⟨by (with_reducible repeat (first | refine blk_drewN ?_ _ | refine blk_drew ?_ | refine blk_alloc ?_ _)); exact BK306.out⟩, ⟨by (with_reducible repeat (first | refine blk_drewN ?_ _ | refine blk_drew ?_ | refine blk_alloc ?_ _)); exact BK327.out⟩, ⟨by (with_reducible repeat (first | refine blk_drewN ?_ _ | refine blk_drew ?_ | refine blk_alloc ?_ _)); exact BK340.out⟩, ⟨by (with_reducible repeat (first | refine blk_drewN ?_ _ | refine blk_drew ?_ | refine blk_alloc ?_ _)); exact BK347.out⟩, ⟨by (with_reducible repeat (first | refine blk_drewN ?_ _ | refine blk_drew ?_ | refine blk_alloc ?_ _)); exact BK357.out⟩, ⟨by (with_reducible repeat (first | refine blk_drewN ?_ _ | refine blk_drew ?_ | refine blk_alloc ?_ _)); exact BK358.out⟩, ⟨by repeat (first | (with_reducible first | exact HB.out | apply below_alloc | apply pw_below_drewN | apply below_drew1 | refine below_set ?_ GE306.out | refine below_set ?_ GE327.out | refine below_set ?_ GE340.out | refine below_set ?_ GE347.out | refine below_set ?_ GE357.out | refine below_set ?_ GE358.out) | exact HB.out)⟩⟩
                      case rest =>
                        as_aux_lemma =>
                          clear HC97
                          try clear c1
                          try clear c2
                          try clear p2
                          try clear c3
                          try clear c4
                          try clear c5
                          try clear c6
                          try clear c7
                          try clear c8
                          try clear c9
                          try clear c10
                          try clear c11
                          try clear c12
                          try clear c13
                          try clear c14
                          try clear c15
                          try clear c16
                          try clear c17
                          try clear c18
                          try clear c19
                          try clear c20
                          try clear c21
                          try clear c30
                          try clear c31
                          try clear c34
                          try clear c35
                          try clear c40
                          try clear c40b0
                          try clear c40b1
                          try clear c47
                          try clear c59
                          try clear c60
                          try clear c67
                          try clear c68
                          try clear c69
                          try clear c71
                          try clear c71b0
                          try clear c71b1
                          try clear c88
                          try clear c88b0
                          try clear c88b1
                          try clear c90
                          try clear c91
                          try clear c92
                          try clear c93
                          try clear c94
                          try clear c98
                          try clear c98b0
                          try clear c98b1
                          try clear c100
                          try clear c101
                          try clear c102
                          try clear c103
                          try clear c104
                          try clear hcz105_0
                          try clear hcz105_1
                          try clear hcz12_0
                          try clear hcz12_1
                          try clear hcz32_0
                          try clear hcz32_1
                          try clear hcz36_0
                          try clear hcz36_1
                          try clear hcz48_0
                          try clear hcz48_1
                          try clear hcz51_0
                          try clear hcz51_1
                          try clear hcz53_0
                          try clear hcz53_1
                          try clear hcz54_0
                          try clear hcz54_1
                          try clear hcz56_0
                          try clear hcz56_1
                          try clear hcz61_0
                          try clear hcz61_1
                          try clear hcz62_0
                          try clear hcz62_1
                          try clear hcz64_0
                          try clear hcz64_1
                          try clear hcz70_0
                          try clear hcz70_1
                          try clear hcz95_0
                          try clear hcz95_1
                          try clear hfz105_0
                          try clear hfz105_1
                          try clear hfz12_0
                          try clear hfz12_1
                          try clear hfz32_0
                          try clear hfz32_1
                          try clear hfz36_0
                          try clear hfz36_1
                          try clear hfz48_0
                          try clear hfz48_1
                          try clear hfz51_0
                          try clear hfz51_1
                          try clear hfz53_0
                          try clear hfz53_1
                          try clear hfz54_0
                          try clear hfz54_1
                          try clear hfz56_0
                          try clear hfz56_1
                          try clear hfz61_0
                          try clear hfz61_1
                          try clear hfz62_0
                          try clear hfz62_1
                          try clear hfz64_0
                          try clear hfz64_1
                          try clear hfz70_0
                          try clear hfz70_1
                          try clear hfz95_0
                          try clear hfz95_1
                          try clear p2
                          obtain ⟨kq, x27_96, rfl, HA, HJ96, HO_4, HO_10, HO_26, BK306, BK327, BK340, BK347, BK357, BK358, HB⟩ := hcut
                          cases kq with
                          | zero => exact absurd HA.out (by simp [pilelaw1_HoursCounted.j3])
                          | succ kj96 =>
                            have H := HA.out; clear HA
                            simp only [pilelaw1_HoursCounted.j3] at H
                            have HC107 := Aside0.mk H; clear H
                            go_upto_if 127 with (fail)
                            go_cut [30] (fun v30 wc => ∃ (kq : Nat) (x30_106 : Bool) (x358000_106 : Int) (x358001_106 : Int), v30 = .bool x30_106 ∧ Aside0 (pilelaw1_HoursCounted.j4 kq t300 t325 x9_6 t330 t333 t334 t335 t338 t339 t341 t342 t343 t346 x22_45 x23_45 x24_45 x25_45 x26_84 x27_96 0 0 x30_106 t303 t304 t336 t337 t344 t345 x358000_106 x358001_106 0 0 = some r) ∧ Aside0 (kq ≤ kj96) ∧ Aside0 (Kd.R (Kd.int .i64) 3 wc w.heap.size (fun k_ => some k_ ≠ (v331 : Value).ownBlock ∧ some k_ ≠ (u26 : Value).ownBlock) (.slice Ao49 t300.length co49) t300) ∧ Aside0 (Kd.R (Kd.int .i64) 3 wc w.heap.size (fun k_ => some k_ ≠ ((.slice Ao49 t300.length co49) : Value).ownBlock ∧ some k_ ≠ (u26 : Value).ownBlock) v331 t330) ∧ Aside0 (Kd.R (Kd.int .i64) 3 wc w.heap.size (fun k_ => some k_ ≠ ((.slice Ao49 t300.length co49) : Value).ownBlock ∧ some k_ ≠ (v331 : Value).ownBlock) u26 x26_84) ∧ Aside0 (wc.heap[gb306]? = some (.cells #[.int .i64 t303, .int .i64 t304] 27 (0, 0))) ∧ Aside0 (wc.heap[gb327]? = some (.cells #[.int .i64 t310, .int .i64 t315] 27 (0, 0))) ∧ Aside0 (wc.heap[gb340]? = some (.cells #[.int .i64 t336, .int .i64 t337] 38 (0, 0))) ∧ Aside0 (wc.heap[gb347]? = some (.cells #[.int .i64 t344, .int .i64 t345] 27 (0, 0))) ∧ Aside0 (wc.heap[gb357]? = some (.cells #[.int .i64 x358000_106, .int .i64 x358001_106] 38 (0, 0))) ∧ Aside0 (wc.heap[gb358]? = some (.cells #[.int .i64 0, .int .i64 0] 27 (0, 0))) ∧ Aside0 (Below w.heap.size w wc))
                            case first =>
                              have H := HC107.out; clear HC107
                              by_cases c108 : x24_45 = 0
                              · rw [if_pos c108] at H
                                have c108b0 : (x24_45 == 0) = true := beq_iff_eq.mpr c108; have c108b1 : (x24_45 != 0) = false := bne_eq_false_iff_eq.mpr c108; clear c108
                                (first | rw [c108b0] | (simp only [i64_w, i32_w]; rw [c108b0]) | skip)
                                replace H := Option.bind_eq_some_iff.mp H; obtain ⟨⟨t363, t364, t365⟩, A1090, H⟩ := H; replace H : (pilelaw1_HoursCounted.j4 kj96 t300 t325 x9_6 t330 t333 t334 t335 t338 t339 t341 t342 t343 t346 x22_45 x23_45 x24_45 x25_45 x26_84 x27_96 0 0 t365 t303 t304 t336 t337 t344 t345 t363 t364 0 0) = some r := H; have A109 := Aside0.mk A1090; clear A1090
                                as_aux_lemma =>
                                  have H' := Aside0.mk H; clear H; have hnb110 := NB306_327.out; have hnc110 := NB327_306.out; have hnb111 := NB306_340.out; have hnc111 := NB340_306.out; have hnb112 := NB306_347.out; have hnc112 := NB347_306.out; have hnb113 := NB306_357.out; have hnc113 := NB357_306.out; have hnb114 := NB306_358.out; have hnc114 := NB358_306.out; have hcz115_0 : wc.cell? ⟨gb306, 0, none⟩ = some (.int .i64 t303) := (blk_cell BK306.out 0).trans rfl; have hcz115_1 : wc.cell? ⟨gb306, 1, none⟩ = some (.int .i64 t304) := (blk_cell BK306.out 1).trans rfl; have hfz115_0 := blk_frozen BK306.out 0; have hfz115_1 := blk_frozen BK306.out 1
                                  go_wp2_with (first | ((with_reducible refine gate_callee (f := 22) rfl ?_); refine goesL_ (some 133) rfl rfl Try.func22 (by kernel_rfl) rfl #[.slice Ao49 t300.length co49, .agg #[.int .i64 t303, .int .i64 t304], .int .i64 t320, .int .i64 t325] rfl (by (try simp only [List.map_toArray, List.map_cons, List.map_nil]); first | done | rfl | (simp only [List.length_drop, List.length_take]; rfl)) ?_; (with_reducible refine (pileref1_RateOf.calls kj96 _ _ t300 t303 t304 t320 t325 t363 t364 t365 _ ?side1 ?side2 A109.out).mono ?_); (case side1 => repeat (first | exact (Kd.R_reads' HO_4.out).2.2 | (with_reducible refine Kd.C_alloc ?_ _) | (with_reducible refine Kd.C_drewN ?_ _) | (with_reducible refine Kd.C_drew ?_))); (case side2 => exact (Kd.R_reads' HO_4.out).2.1); rintro e w116 ⟨rfl, hb⟩; refine ⟨_, rfl, ?_⟩; have n0_ := Aside0.mk (Kd.R_below (Kd.R_up HO_4.out) hb); have n1_ := Aside0.mk (Kd.R_below (Kd.R_up HO_10.out) hb); have n2_ := Aside0.mk (Kd.R_below (Kd.R_up HO_26.out) hb); have n3_ := Aside0.mk (blk_below (g := gb306) (o := .cells #[.int .i64 t303, .int .i64 t304] 27 (0, 0)) (blk_up BK306.out) hb); have n4_ := Aside0.mk (blk_below (g := gb327) (o := .cells #[.int .i64 t310, .int .i64 t315] 27 (0, 0)) (blk_up BK327.out) hb); have n5_ := Aside0.mk (blk_below (g := gb340) (o := .cells #[.int .i64 t336, .int .i64 t337] 38 (0, 0)) (blk_up BK340.out) hb); have n6_ := Aside0.mk (blk_below (g := gb347) (o := .cells #[.int .i64 t344, .int .i64 t345] 27 (0, 0)) (blk_up BK347.out) hb); have n7_ := Aside0.mk (blk_below (g := gb357) (o := .cells #[.int .i64 0, .int .i64 0] 38 (0, 0)) (blk_up BK357.out) hb); have n8_ := Aside0.mk (blk_below (g := gb358) (o := .cells #[.int .i64 0, .int .i64 0] 27 (0, 0)) (blk_up BK358.out) hb); have n9_ := Aside0.mk (below_step (by repeat (first | (with_reducible first | exact HB.out | apply below_alloc | apply pw_below_drewN | apply below_drew1 | refine below_set ?_ GE306.out | refine below_set ?_ GE327.out | refine below_set ?_ GE340.out | refine below_set ?_ GE347.out | refine below_set ?_ GE357.out | refine below_set ?_ GE358.out) | exact HB.out)) hb); clear HO_4; clear HO_10; clear HO_26; clear BK306; clear BK327; clear BK340; clear BK347; clear BK357; clear BK358; clear HB; have HO_4 := n0_; have HO_10 := n1_; have HO_26 := n2_; have BK306 := n3_; have BK327 := n4_; have BK340 := n5_; have BK347 := n6_; have BK357 := n7_; have BK358 := n8_; have HB := n9_; clear n0_ n1_ n2_ n3_ n4_ n5_ n6_ n7_ n8_ n9_; (try clear hb); (try clear hb2); (try clear hk); (try clear hi); have hnb117 := NB357_327.out; have hnc117 := NB327_357.out; have hnb118 := NB357_340.out; have hnc118 := NB340_357.out; have hnb119 := NB357_347.out; have hnc119 := NB347_357.out; have hnb120 := NB357_358.out; have hnc120 := NB358_357.out; have hcz121_0 : w116.cell? ⟨gb357, 0, none⟩ = some (.int .i64 0) := (blk_cell BK357.out 0).trans rfl; have hcz121_1 : w116.cell? ⟨gb357, 1, none⟩ = some (.int .i64 0) := (blk_cell BK357.out 1).trans rfl; have hfz121_0 := blk_frozen BK357.out 0; have hfz121_1 := blk_frozen BK357.out 1))
                                  go_meet
                                  case rel => exact ⟨_, (t365), (t363), (t364), (by first | rfl | (simp; done) | (simp [*]; done)), H', ⟨by have := HJ6.out; have := HJ45.out; have := HJ84.out; have := HJ96.out; first | omega | exact Nat.le_refl _⟩, ⟨by (with_reducible repeat (first | apply Kd.R_alloc | apply Kd.R_drewN | apply Kd.R_drew)); exact Kd.R_mono (Kd.R_far (p := ⟨gb357, 1, none⟩) (Kd.R_far (p := ⟨gb357, 0, none⟩) (Kd.R_types HO_4.out BK357.out (by decide)) (fun _ hk => hk.2) (.int .i64 t363)) (fun _ hk => hk.2) (.int .i64 t364)) (fun _ hk => ⟨hk.1.1, hk.1.2⟩)⟩, ⟨by (with_reducible repeat (first | apply Kd.R_alloc | apply Kd.R_drewN | apply Kd.R_drew)); exact Kd.R_mono (Kd.R_far (p := ⟨gb357, 1, none⟩) (Kd.R_far (p := ⟨gb357, 0, none⟩) (Kd.R_types HO_10.out BK357.out (by decide)) (fun _ hk => hk.2) (.int .i64 t363)) (fun _ hk => hk.2) (.int .i64 t364)) (fun _ hk => ⟨hk.1.1, hk.1.2⟩)⟩, ⟨by (with_reducible repeat (first | apply Kd.R_alloc | apply Kd.R_drewN | apply Kd.R_drew)); exact Kd.R_mono (Kd.R_far (p := ⟨gb357, 1, none⟩) (Kd.R_far (p := ⟨gb357, 0, none⟩) (Kd.R_types HO_26.out BK357.out (by decide)) (fun _ hk => hk.2) (.int .i64 t363)) (fun _ hk => hk.2) (.int .i64 t364)) (fun _ hk => ⟨hk.1.1, hk.1.2⟩)⟩, ⟨by (with_reducible repeat (first | refine blk_drewN ?_ _ | refine blk_drew ?_ | refine blk_alloc ?_ _)); refine blk_far ?_ NB306_357.out _; (with_reducible repeat (first | refine blk_drewN ?_ _ | refine blk_drew ?_ | refine blk_alloc ?_ _)); refine blk_far ?_ NB306_357.out _; (with_reducible repeat (first | refine blk_drewN ?_ _ | refine blk_drew ?_ | refine blk_alloc ?_ _)); exact BK306.out⟩, ⟨by (with_reducible repeat (first | refine blk_drewN ?_ _ | refine blk_drew ?_ | refine blk_alloc ?_ _)); refine blk_far ?_ NB327_357.out _; (with_reducible repeat (first | refine blk_drewN ?_ _ | refine blk_drew ?_ | refine blk_alloc ?_ _)); refine blk_far ?_ NB327_357.out _; (with_reducible repeat (first | refine blk_drewN ?_ _ | refine blk_drew ?_ | refine blk_alloc ?_ _)); exact BK327.out⟩, ⟨by (with_reducible repeat (first | refine blk_drewN ?_ _ | refine blk_drew ?_ | refine blk_alloc ?_ _)); refine blk_far ?_ NB340_357.out _; (with_reducible repeat (first | refine blk_drewN ?_ _ | refine blk_drew ?_ | refine blk_alloc ?_ _)); refine blk_far ?_ NB340_357.out _; (with_reducible repeat (first | refine blk_drewN ?_ _ | refine blk_drew ?_ | refine blk_alloc ?_ _)); exact BK340.out⟩, ⟨by (with_reducible repeat (first | refine blk_drewN ?_ _ | refine blk_drew ?_ | refine blk_alloc ?_ _)); refine blk_far ?_ NB347_357.out _; (with_reducible repeat (first | refine blk_drewN ?_ _ | refine blk_drew ?_ | refine blk_alloc ?_ _)); refine blk_far ?_ NB347_357.out _; (with_reducible repeat (first | refine blk_drewN ?_ _ | refine blk_drew ?_ | refine blk_alloc ?_ _)); exact BK347.out⟩, ⟨by (with_reducible repeat (first | refine blk_drewN ?_ _ | refine blk_drew ?_ | refine blk_alloc ?_ _)); refine blk_put (cs := #[.int .i64 t363, .int .i64 0]) ?_ 1 _ rfl; (with_reducible repeat (first | refine blk_drewN ?_ _ | refine blk_drew ?_ | refine blk_alloc ?_ _)); refine blk_put (cs := #[.int .i64 0, .int .i64 0]) ?_ 0 _ rfl; (with_reducible repeat (first | refine blk_drewN ?_ _ | refine blk_drew ?_ | refine blk_alloc ?_ _)); exact BK357.out⟩, ⟨by (with_reducible repeat (first | refine blk_drewN ?_ _ | refine blk_drew ?_ | refine blk_alloc ?_ _)); refine blk_far ?_ NB358_357.out _; (with_reducible repeat (first | refine blk_drewN ?_ _ | refine blk_drew ?_ | refine blk_alloc ?_ _)); refine blk_far ?_ NB358_357.out _; (with_reducible repeat (first | refine blk_drewN ?_ _ | refine blk_drew ?_ | refine blk_alloc ?_ _)); exact BK358.out⟩, ⟨by repeat (first | (with_reducible first | exact HB.out | apply below_alloc | apply pw_below_drewN | apply below_drew1 | refine below_set ?_ GE306.out | refine below_set ?_ GE327.out | refine below_set ?_ GE340.out | refine below_set ?_ GE347.out | refine below_set ?_ GE357.out | refine below_set ?_ GE358.out) | exact HB.out)⟩⟩
                              · rw [if_neg c108] at H
                                have c108b0 : (x24_45 == 0) = false := beq_eq_false_iff_ne.mpr c108; have c108b1 : (x24_45 != 0) = true := bne_iff_ne.mpr c108
                                (first | rw [c108b0] | (simp only [i64_w, i32_w]; rw [c108b0]) | skip)
                                as_aux_lemma =>
                                  have H' := Aside0.mk H; clear H
                                  go_wp2
                                  go_meet
                                  case rel => exact ⟨_, (false), (0), (0), (by first | rfl | (simp; done) | (simp [*]; done)), H', ⟨by have := HJ6.out; have := HJ45.out; have := HJ84.out; have := HJ96.out; first | omega | exact Nat.le_refl _⟩, ⟨by (with_reducible repeat (first | apply Kd.R_alloc | apply Kd.R_drewN | apply Kd.R_drew)); exact HO_4.out⟩, ⟨by (with_reducible repeat (first | apply Kd.R_alloc | apply Kd.R_drewN | apply Kd.R_drew)); exact HO_10.out⟩, ⟨by (with_reducible repeat (first | apply Kd.R_alloc | apply Kd.R_drewN | apply Kd.R_drew)); exact HO_26.out⟩, ⟨by (with_reducible repeat (first | refine blk_drewN ?_ _ | refine blk_drew ?_ | refine blk_alloc ?_ _)); exact BK306.out⟩, ⟨by (with_reducible repeat (first | refine blk_drewN ?_ _ | refine blk_drew ?_ | refine blk_alloc ?_ _)); exact BK327.out⟩, ⟨by (with_reducible repeat (first | refine blk_drewN ?_ _ | refine blk_drew ?_ | refine blk_alloc ?_ _)); exact BK340.out⟩, ⟨by (with_reducible repeat (first | refine blk_drewN ?_ _ | refine blk_drew ?_ | refine blk_alloc ?_ _)); exact BK347.out⟩, ⟨by (with_reducible repeat (first | refine blk_drewN ?_ _ | refine blk_drew ?_ | refine blk_alloc ?_ _)); exact BK357.out⟩, ⟨by (with_reducible repeat (first | refine blk_drewN ?_ _ | refine blk_drew ?_ | refine blk_alloc ?_ _)); exact BK358.out⟩, ⟨by repeat (first | (with_reducible first | exact HB.out | apply below_alloc | apply pw_below_drewN | apply below_drew1 | refine below_set ?_ GE306.out | refine below_set ?_ GE327.out | refine below_set ?_ GE340.out | refine below_set ?_ GE347.out | refine below_set ?_ GE357.out | refine below_set ?_ GE358.out) | exact HB.out)⟩⟩
                            case rest =>
                              as_aux_lemma =>
                                clear HC107
                                try clear c1
                                try clear c2
                                try clear p2
                                try clear c3
                                try clear c4
                                try clear c5
                                try clear c6
                                try clear c7
                                try clear c8
                                try clear c9
                                try clear c10
                                try clear c11
                                try clear c12
                                try clear c13
                                try clear c14
                                try clear c15
                                try clear c16
                                try clear c17
                                try clear c18
                                try clear c19
                                try clear c20
                                try clear c21
                                try clear c22
                                try clear c30
                                try clear c31
                                try clear c34
                                try clear c35
                                try clear c40
                                try clear c40b0
                                try clear c40b1
                                try clear c47
                                try clear c59
                                try clear c60
                                try clear c67
                                try clear c68
                                try clear c69
                                try clear c71
                                try clear c71b0
                                try clear c71b1
                                try clear c88
                                try clear c88b0
                                try clear c88b1
                                try clear c90
                                try clear c91
                                try clear c92
                                try clear c93
                                try clear c94
                                try clear c98
                                try clear c98b0
                                try clear c98b1
                                try clear c100
                                try clear c101
                                try clear c102
                                try clear c103
                                try clear c104
                                try clear c108
                                try clear c108b0
                                try clear c108b1
                                try clear c110
                                try clear c111
                                try clear c112
                                try clear c113
                                try clear c114
                                try clear c117
                                try clear c118
                                try clear c119
                                try clear c120
                                try clear hcz105_0
                                try clear hcz105_1
                                try clear hcz115_0
                                try clear hcz115_1
                                try clear hcz121_0
                                try clear hcz121_1
                                try clear hcz12_0
                                try clear hcz12_1
                                try clear hcz32_0
                                try clear hcz32_1
                                try clear hcz36_0
                                try clear hcz36_1
                                try clear hcz48_0
                                try clear hcz48_1
                                try clear hcz51_0
                                try clear hcz51_1
                                try clear hcz53_0
                                try clear hcz53_1
                                try clear hcz54_0
                                try clear hcz54_1
                                try clear hcz56_0
                                try clear hcz56_1
                                try clear hcz61_0
                                try clear hcz61_1
                                try clear hcz62_0
                                try clear hcz62_1
                                try clear hcz64_0
                                try clear hcz64_1
                                try clear hcz70_0
                                try clear hcz70_1
                                try clear hcz95_0
                                try clear hcz95_1
                                try clear hfz105_0
                                try clear hfz105_1
                                try clear hfz115_0
                                try clear hfz115_1
                                try clear hfz121_0
                                try clear hfz121_1
                                try clear hfz12_0
                                try clear hfz12_1
                                try clear hfz32_0
                                try clear hfz32_1
                                try clear hfz36_0
                                try clear hfz36_1
                                try clear hfz48_0
                                try clear hfz48_1
                                try clear hfz51_0
                                try clear hfz51_1
                                try clear hfz53_0
                                try clear hfz53_1
                                try clear hfz54_0
                                try clear hfz54_1
                                try clear hfz56_0
                                try clear hfz56_1
                                try clear hfz61_0
                                try clear hfz61_1
                                try clear hfz62_0
                                try clear hfz62_1
                                try clear hfz64_0
                                try clear hfz64_1
                                try clear hfz70_0
                                try clear hfz70_1
                                try clear hfz95_0
                                try clear hfz95_1
                                try clear p2
                                obtain ⟨kq, x30_106, x358000_106, x358001_106, rfl, HA, HJ106, HO_4, HO_10, HO_26, BK306, BK327, BK340, BK347, BK357, BK358, HB⟩ := hcut
                                cases kq with
                                | zero => exact absurd HA.out (by simp [pilelaw1_HoursCounted.j4])
                                | succ kj106 =>
                                  have H := HA.out; clear HA
                                  simp only [pilelaw1_HoursCounted.j4] at H
                                  have HC122 := Aside0.mk H; clear H
                                  go_upto_if 137 with (fail)
                                  go_cut [28, 29] (fun v28 v29 wc => ∃ (kq : Nat) (x28_121 : Int) (x29_121 : Int), v28 = .int .i64 x28_121 ∧ v29 = .int .i64 x29_121 ∧ Aside0 (pilelaw1_HoursCounted.j5 kq t300 x9_6 t330 t333 t334 t335 t338 t339 t341 t342 t343 t346 x22_45 x23_45 x24_45 x25_45 x26_84 x27_96 x28_121 x29_121 x30_106 t303 t304 t336 t337 t344 t345 x358000_106 x358001_106 0 0 = some r) ∧ Aside0 (kq ≤ kj106) ∧ Aside0 (Kd.R (Kd.int .i64) 3 wc w.heap.size (fun k_ => some k_ ≠ (v331 : Value).ownBlock ∧ some k_ ≠ (u26 : Value).ownBlock) (.slice Ao49 t300.length co49) t300) ∧ Aside0 (Kd.R (Kd.int .i64) 3 wc w.heap.size (fun k_ => some k_ ≠ ((.slice Ao49 t300.length co49) : Value).ownBlock ∧ some k_ ≠ (u26 : Value).ownBlock) v331 t330) ∧ Aside0 (Kd.R (Kd.int .i64) 3 wc w.heap.size (fun k_ => some k_ ≠ ((.slice Ao49 t300.length co49) : Value).ownBlock ∧ some k_ ≠ (v331 : Value).ownBlock) u26 x26_84) ∧ Aside0 (wc.heap[gb306]? = some (.cells #[.int .i64 t303, .int .i64 t304] 27 (0, 0))) ∧ Aside0 (wc.heap[gb327]? = some (.cells #[.int .i64 t310, .int .i64 t315] 27 (0, 0))) ∧ Aside0 (wc.heap[gb340]? = some (.cells #[.int .i64 t336, .int .i64 t337] 38 (0, 0))) ∧ Aside0 (wc.heap[gb347]? = some (.cells #[.int .i64 t344, .int .i64 t345] 27 (0, 0))) ∧ Aside0 (wc.heap[gb357]? = some (.cells #[.int .i64 x358000_106, .int .i64 x358001_106] 38 (0, 0))) ∧ Aside0 (wc.heap[gb358]? = some (.cells #[.int .i64 0, .int .i64 0] 27 (0, 0))) ∧ Aside0 (Below w.heap.size w wc))
                                  case first =>
                                    have H := HC122.out; clear HC122
                                    by_cases c123 : x25_45 = 0
                                    · rw [if_pos c123] at H
                                      have c123b0 : (x25_45 == 0) = true := beq_iff_eq.mpr c123; have c123b1 : (x25_45 != 0) = false := bne_eq_false_iff_eq.mpr c123; clear c123
                                      (first | rw [c123b0] | (simp only [i64_w, i32_w]; rw [c123b0]) | skip)
                                      replace H := Option.bind_eq_some_iff.mp H; obtain ⟨⟨t366, t367⟩, A1240, H⟩ := H; replace H : (pilelaw1_HoursCounted.j5 kj106 t300 x9_6 t330 t333 t334 t335 t338 t339 t341 t342 t343 t346 x22_45 x23_45 x24_45 x25_45 x26_84 x27_96 t366 t367 x30_106 t303 t304 t336 t337 t344 t345 x358000_106 x358001_106 0 0) = some r := H; have A124 := Aside0.mk A1240; clear A1240
                                      as_aux_lemma =>
                                        have H' := Aside0.mk H; clear H; have hnb125 := NB306_327.out; have hnc125 := NB327_306.out; have hnb126 := NB306_340.out; have hnc126 := NB340_306.out; have hnb127 := NB306_347.out; have hnc127 := NB347_306.out; have hnb128 := NB306_357.out; have hnc128 := NB357_306.out; have hnb129 := NB306_358.out; have hnc129 := NB358_306.out; have hcz130_0 : wc.cell? ⟨gb306, 0, none⟩ = some (.int .i64 t303) := (blk_cell BK306.out 0).trans rfl; have hcz130_1 : wc.cell? ⟨gb306, 1, none⟩ = some (.int .i64 t304) := (blk_cell BK306.out 1).trans rfl; have hfz130_0 := blk_frozen BK306.out 0; have hfz130_1 := blk_frozen BK306.out 1
                                        go_wp2_with (first | ((with_reducible refine gate_callee (f := 23) rfl ?_); refine goesL_ (some 142) rfl rfl Try.func23 (by kernel_rfl) rfl #[.slice Ao49 t300.length co49, .agg #[.int .i64 t303, .int .i64 t304], .int .i64 t325] rfl (by (try simp only [List.map_toArray, List.map_cons, List.map_nil]); first | done | rfl | (simp only [List.length_drop, List.length_take]; rfl)) ?_; (with_reducible refine (pileref1_BestOf.calls kj106 _ _ t300 t303 t304 t325 t366 t367 _ ?side1 ?side2 A124.out).mono ?_); (case side1 => repeat (first | exact (Kd.R_reads' HO_4.out).2.2 | (with_reducible refine Kd.C_alloc ?_ _) | (with_reducible refine Kd.C_drewN ?_ _) | (with_reducible refine Kd.C_drew ?_))); (case side2 => exact (Kd.R_reads' HO_4.out).2.1); rintro e w131 ⟨rfl, hb⟩; refine ⟨_, rfl, ?_⟩; have n0_ := Aside0.mk (Kd.R_below (Kd.R_up HO_4.out) hb); have n1_ := Aside0.mk (Kd.R_below (Kd.R_up HO_10.out) hb); have n2_ := Aside0.mk (Kd.R_below (Kd.R_up HO_26.out) hb); have n3_ := Aside0.mk (blk_below (g := gb306) (o := .cells #[.int .i64 t303, .int .i64 t304] 27 (0, 0)) (blk_up BK306.out) hb); have n4_ := Aside0.mk (blk_below (g := gb327) (o := .cells #[.int .i64 t310, .int .i64 t315] 27 (0, 0)) (blk_up BK327.out) hb); have n5_ := Aside0.mk (blk_below (g := gb340) (o := .cells #[.int .i64 t336, .int .i64 t337] 38 (0, 0)) (blk_up BK340.out) hb); have n6_ := Aside0.mk (blk_below (g := gb347) (o := .cells #[.int .i64 t344, .int .i64 t345] 27 (0, 0)) (blk_up BK347.out) hb); have n7_ := Aside0.mk (blk_below (g := gb357) (o := .cells #[.int .i64 x358000_106, .int .i64 x358001_106] 38 (0, 0)) (blk_up BK357.out) hb); have n8_ := Aside0.mk (blk_below (g := gb358) (o := .cells #[.int .i64 0, .int .i64 0] 27 (0, 0)) (blk_up BK358.out) hb); have n9_ := Aside0.mk (below_step (by repeat (first | (with_reducible first | exact HB.out | apply below_alloc | apply pw_below_drewN | apply below_drew1 | refine below_set ?_ GE306.out | refine below_set ?_ GE327.out | refine below_set ?_ GE340.out | refine below_set ?_ GE347.out | refine below_set ?_ GE357.out | refine below_set ?_ GE358.out) | exact HB.out)) hb); clear HO_4; clear HO_10; clear HO_26; clear BK306; clear BK327; clear BK340; clear BK347; clear BK357; clear BK358; clear HB; have HO_4 := n0_; have HO_10 := n1_; have HO_26 := n2_; have BK306 := n3_; have BK327 := n4_; have BK340 := n5_; have BK347 := n6_; have BK357 := n7_; have BK358 := n8_; have HB := n9_; clear n0_ n1_ n2_ n3_ n4_ n5_ n6_ n7_ n8_ n9_; (try clear hb); (try clear hb2); (try clear hk); (try clear hi)))
                                        go_meet
                                        case rel => exact ⟨_, (t366), (t367), (by first | rfl | (simp; done) | (simp [*]; done)), (by first | rfl | (simp; done) | (simp [*]; done)), H', ⟨by have := HJ6.out; have := HJ45.out; have := HJ84.out; have := HJ96.out; have := HJ106.out; first | omega | exact Nat.le_refl _⟩, ⟨by (with_reducible repeat (first | apply Kd.R_alloc | apply Kd.R_drewN | apply Kd.R_drew)); exact HO_4.out⟩, ⟨by (with_reducible repeat (first | apply Kd.R_alloc | apply Kd.R_drewN | apply Kd.R_drew)); exact HO_10.out⟩, ⟨by (with_reducible repeat (first | apply Kd.R_alloc | apply Kd.R_drewN | apply Kd.R_drew)); exact HO_26.out⟩, ⟨by (with_reducible repeat (first | refine blk_drewN ?_ _ | refine blk_drew ?_ | refine blk_alloc ?_ _)); exact BK306.out⟩, ⟨by (with_reducible repeat (first | refine blk_drewN ?_ _ | refine blk_drew ?_ | refine blk_alloc ?_ _)); exact BK327.out⟩, ⟨by (with_reducible repeat (first | refine blk_drewN ?_ _ | refine blk_drew ?_ | refine blk_alloc ?_ _)); exact BK340.out⟩, ⟨by (with_reducible repeat (first | refine blk_drewN ?_ _ | refine blk_drew ?_ | refine blk_alloc ?_ _)); exact BK347.out⟩, ⟨by (with_reducible repeat (first | refine blk_drewN ?_ _ | refine blk_drew ?_ | refine blk_alloc ?_ _)); exact BK357.out⟩, ⟨by (with_reducible repeat (first | refine blk_drewN ?_ _ | refine blk_drew ?_ | refine blk_alloc ?_ _)); exact BK358.out⟩, ⟨by repeat (first | (with_reducible first | exact HB.out | apply below_alloc | apply pw_below_drewN | apply below_drew1 | refine below_set ?_ GE306.out | refine below_set ?_ GE327.out | refine below_set ?_ GE340.out | refine below_set ?_ GE347.out | refine below_set ?_ GE357.out | refine below_set ?_ GE358.out) | exact HB.out)⟩⟩
                                    · rw [if_neg c123] at H
                                      have c123b0 : (x25_45 == 0) = false := beq_eq_false_iff_ne.mpr c123; have c123b1 : (x25_45 != 0) = true := bne_iff_ne.mpr c123
                                      (first | rw [c123b0] | (simp only [i64_w, i32_w]; rw [c123b0]) | skip)
                                      as_aux_lemma =>
                                        have H' := Aside0.mk H; clear H
                                        go_wp2
                                        go_meet
                                        case rel => exact ⟨_, (0), (0), (by first | rfl | (simp; done) | (simp [*]; done)), (by first | rfl | (simp; done) | (simp [*]; done)), H', ⟨by have := HJ6.out; have := HJ45.out; have := HJ84.out; have := HJ96.out; have := HJ106.out; first | omega | exact Nat.le_refl _⟩, ⟨by (with_reducible repeat (first | apply Kd.R_alloc | apply Kd.R_drewN | apply Kd.R_drew)); exact HO_4.out⟩, ⟨by (with_reducible repeat (first | apply Kd.R_alloc | apply Kd.R_drewN | apply Kd.R_drew)); exact HO_10.out⟩, ⟨by (with_reducible repeat (first | apply Kd.R_alloc | apply Kd.R_drewN | apply Kd.R_drew)); exact HO_26.out⟩, ⟨by (with_reducible repeat (first | refine blk_drewN ?_ _ | refine blk_drew ?_ | refine blk_alloc ?_ _)); exact BK306.out⟩, ⟨by (with_reducible repeat (first | refine blk_drewN ?_ _ | refine blk_drew ?_ | refine blk_alloc ?_ _)); exact BK327.out⟩, ⟨by (with_reducible repeat (first | refine blk_drewN ?_ _ | refine blk_drew ?_ | refine blk_alloc ?_ _)); exact BK340.out⟩, ⟨by (with_reducible repeat (first | refine blk_drewN ?_ _ | refine blk_drew ?_ | refine blk_alloc ?_ _)); exact BK347.out⟩, ⟨by (with_reducible repeat (first | refine blk_drewN ?_ _ | refine blk_drew ?_ | refine blk_alloc ?_ _)); exact BK357.out⟩, ⟨by (with_reducible repeat (first | refine blk_drewN ?_ _ | refine blk_drew ?_ | refine blk_alloc ?_ _)); exact BK358.out⟩, ⟨by repeat (first | (with_reducible first | exact HB.out | apply below_alloc | apply pw_below_drewN | apply below_drew1 | refine below_set ?_ GE306.out | refine below_set ?_ GE327.out | refine below_set ?_ GE340.out | refine below_set ?_ GE347.out | refine below_set ?_ GE357.out | refine below_set ?_ GE358.out) | exact HB.out)⟩⟩
                                  case rest =>
                                    as_aux_lemma =>
                                      clear HC122
                                      try clear c1
                                      try clear c2
                                      try clear p2
                                      try clear c3
                                      try clear c4
                                      try clear c5
                                      try clear c6
                                      try clear c7
                                      try clear c8
                                      try clear c9
                                      try clear c10
                                      try clear c11
                                      try clear c12
                                      try clear c13
                                      try clear c14
                                      try clear c15
                                      try clear c16
                                      try clear c17
                                      try clear c18
                                      try clear c19
                                      try clear c20
                                      try clear c21
                                      try clear c22
                                      try clear c23
                                      try clear c30
                                      try clear c31
                                      try clear c34
                                      try clear c35
                                      try clear c40
                                      try clear c40b0
                                      try clear c40b1
                                      try clear c47
                                      try clear c59
                                      try clear c60
                                      try clear c67
                                      try clear c68
                                      try clear c69
                                      try clear c71
                                      try clear c71b0
                                      try clear c71b1
                                      try clear c88
                                      try clear c88b0
                                      try clear c88b1
                                      try clear c90
                                      try clear c91
                                      try clear c92
                                      try clear c93
                                      try clear c94
                                      try clear c98
                                      try clear c98b0
                                      try clear c98b1
                                      try clear c100
                                      try clear c101
                                      try clear c102
                                      try clear c103
                                      try clear c104
                                      try clear c108
                                      try clear c108b0
                                      try clear c108b1
                                      try clear c110
                                      try clear c111
                                      try clear c112
                                      try clear c113
                                      try clear c114
                                      try clear c117
                                      try clear c118
                                      try clear c119
                                      try clear c120
                                      try clear c123
                                      try clear c123b0
                                      try clear c123b1
                                      try clear c125
                                      try clear c126
                                      try clear c127
                                      try clear c128
                                      try clear c129
                                      try clear hcz105_0
                                      try clear hcz105_1
                                      try clear hcz115_0
                                      try clear hcz115_1
                                      try clear hcz121_0
                                      try clear hcz121_1
                                      try clear hcz12_0
                                      try clear hcz12_1
                                      try clear hcz130_0
                                      try clear hcz130_1
                                      try clear hcz32_0
                                      try clear hcz32_1
                                      try clear hcz36_0
                                      try clear hcz36_1
                                      try clear hcz48_0
                                      try clear hcz48_1
                                      try clear hcz51_0
                                      try clear hcz51_1
                                      try clear hcz53_0
                                      try clear hcz53_1
                                      try clear hcz54_0
                                      try clear hcz54_1
                                      try clear hcz56_0
                                      try clear hcz56_1
                                      try clear hcz61_0
                                      try clear hcz61_1
                                      try clear hcz62_0
                                      try clear hcz62_1
                                      try clear hcz64_0
                                      try clear hcz64_1
                                      try clear hcz70_0
                                      try clear hcz70_1
                                      try clear hcz95_0
                                      try clear hcz95_1
                                      try clear hfz105_0
                                      try clear hfz105_1
                                      try clear hfz115_0
                                      try clear hfz115_1
                                      try clear hfz121_0
                                      try clear hfz121_1
                                      try clear hfz12_0
                                      try clear hfz12_1
                                      try clear hfz130_0
                                      try clear hfz130_1
                                      try clear hfz32_0
                                      try clear hfz32_1
                                      try clear hfz36_0
                                      try clear hfz36_1
                                      try clear hfz48_0
                                      try clear hfz48_1
                                      try clear hfz51_0
                                      try clear hfz51_1
                                      try clear hfz53_0
                                      try clear hfz53_1
                                      try clear hfz54_0
                                      try clear hfz54_1
                                      try clear hfz56_0
                                      try clear hfz56_1
                                      try clear hfz61_0
                                      try clear hfz61_1
                                      try clear hfz62_0
                                      try clear hfz62_1
                                      try clear hfz64_0
                                      try clear hfz64_1
                                      try clear hfz70_0
                                      try clear hfz70_1
                                      try clear hfz95_0
                                      try clear hfz95_1
                                      try clear p2
                                      obtain ⟨kq, x28_121, x29_121, rfl, rfl, HA, HJ121, HO_4, HO_10, HO_26, BK306, BK327, BK340, BK347, BK357, BK358, HB⟩ := hcut
                                      cases kq with
                                      | zero => exact absurd HA.out (by simp [pilelaw1_HoursCounted.j5])
                                      | succ kj121 =>
                                        have H := HA.out; clear HA
                                        simp only [pilelaw1_HoursCounted.j5] at H
                                        have HC132 := Aside0.mk H; clear H
                                        go_upto_if 146 with (fail)
                                        go_cut [] (fun wc => ∃ (kq : Nat) (x359000_131 : Int) (x359001_131 : Int), Aside0 (pilelaw1_HoursCounted.j6 kq x9_6 t330 t333 t334 t335 t338 t339 t341 t342 t343 t346 x22_45 x23_45 x24_45 x25_45 x26_84 x27_96 x28_121 x29_121 x30_106 t336 t337 t344 t345 x358000_106 x358001_106 x359000_131 x359001_131 = some r) ∧ Aside0 (kq ≤ kj121) ∧ Aside0 (Kd.R (Kd.int .i64) 3 wc w.heap.size (fun k_ => some k_ ≠ (u26 : Value).ownBlock) v331 t330) ∧ Aside0 (Kd.R (Kd.int .i64) 3 wc w.heap.size (fun k_ => some k_ ≠ (v331 : Value).ownBlock) u26 x26_84) ∧ Aside0 (wc.heap[gb306]? = some (.cells #[.int .i64 t303, .int .i64 t304] 27 (0, 0))) ∧ Aside0 (wc.heap[gb327]? = some (.cells #[.int .i64 t310, .int .i64 t315] 27 (0, 0))) ∧ Aside0 (wc.heap[gb340]? = some (.cells #[.int .i64 t336, .int .i64 t337] 38 (0, 0))) ∧ Aside0 (wc.heap[gb347]? = some (.cells #[.int .i64 t344, .int .i64 t345] 27 (0, 0))) ∧ Aside0 (wc.heap[gb357]? = some (.cells #[.int .i64 x358000_106, .int .i64 x358001_106] 38 (0, 0))) ∧ Aside0 (wc.heap[gb358]? = some (.cells #[.int .i64 x359000_131, .int .i64 x359001_131] 27 (0, 0))) ∧ Aside0 (Below w.heap.size w wc))
                                        case first =>
                                          have H := HC132.out; clear HC132
                                          by_cases c133 : x9_6 = 0
                                          · rw [if_pos c133] at H
                                            have c133b0 : (x9_6 == 0) = true := beq_iff_eq.mpr c133; have c133b1 : (x9_6 != 0) = false := bne_eq_false_iff_eq.mpr c133; clear c133
                                            (first | rw [c133b0] | (simp only [i64_w, i32_w]; rw [c133b0]) | skip)
                                            replace H := Option.bind_eq_some_iff.mp H; obtain ⟨⟨t368, t369⟩, A1340, H⟩ := H; replace H : (pilelaw1_HoursCounted.j6 kj121 x9_6 t330 t333 t334 t335 t338 t339 t341 t342 t343 t346 x22_45 x23_45 x24_45 x25_45 x26_84 x27_96 x28_121 x29_121 x30_106 t336 t337 t344 t345 x358000_106 x358001_106 t368 t369) = some r := H; have A134 := Aside0.mk A1340; clear A1340
                                            as_aux_lemma =>
                                              have H' := Aside0.mk H; clear H; have hnb135 := NB306_327.out; have hnc135 := NB327_306.out; have hnb136 := NB306_340.out; have hnc136 := NB340_306.out; have hnb137 := NB306_347.out; have hnc137 := NB347_306.out; have hnb138 := NB306_357.out; have hnc138 := NB357_306.out; have hnb139 := NB306_358.out; have hnc139 := NB358_306.out; have hcz140_0 : wc.cell? ⟨gb306, 0, none⟩ = some (.int .i64 t303) := (blk_cell BK306.out 0).trans rfl; have hcz140_1 : wc.cell? ⟨gb306, 1, none⟩ = some (.int .i64 t304) := (blk_cell BK306.out 1).trans rfl; have hfz140_0 := blk_frozen BK306.out 0; have hfz140_1 := blk_frozen BK306.out 1
                                              go_wp2_with (first | ((with_reducible refine gate_callee (f := 24) rfl ?_); refine goesL_ (some 149) rfl rfl Try.func24 (by kernel_rfl) rfl #[.slice Ao49 t300.length co49, .agg #[.int .i64 t303, .int .i64 t304]] rfl (by (try simp only [List.map_toArray, List.map_cons, List.map_nil]); first | done | rfl | (simp only [List.length_drop, List.length_take]; rfl)) ?_; (with_reducible refine (pileref1_GapOf.calls kj121 _ _ t300 t303 t304 t368 t369 _ ?side1 ?side2 A134.out).mono ?_); (case side1 => repeat (first | exact (Kd.R_reads' HO_4.out).2.2 | (with_reducible refine Kd.C_alloc ?_ _) | (with_reducible refine Kd.C_drewN ?_ _) | (with_reducible refine Kd.C_drew ?_))); (case side2 => exact (Kd.R_reads' HO_4.out).2.1); rintro e w141 ⟨rfl, hb⟩; refine ⟨_, rfl, ?_⟩; have n0_ := Aside0.mk (Kd.R_below (Kd.R_up HO_4.out) hb); have n1_ := Aside0.mk (Kd.R_below (Kd.R_up HO_10.out) hb); have n2_ := Aside0.mk (Kd.R_below (Kd.R_up HO_26.out) hb); have n3_ := Aside0.mk (blk_below (g := gb306) (o := .cells #[.int .i64 t303, .int .i64 t304] 27 (0, 0)) (blk_up BK306.out) hb); have n4_ := Aside0.mk (blk_below (g := gb327) (o := .cells #[.int .i64 t310, .int .i64 t315] 27 (0, 0)) (blk_up BK327.out) hb); have n5_ := Aside0.mk (blk_below (g := gb340) (o := .cells #[.int .i64 t336, .int .i64 t337] 38 (0, 0)) (blk_up BK340.out) hb); have n6_ := Aside0.mk (blk_below (g := gb347) (o := .cells #[.int .i64 t344, .int .i64 t345] 27 (0, 0)) (blk_up BK347.out) hb); have n7_ := Aside0.mk (blk_below (g := gb357) (o := .cells #[.int .i64 x358000_106, .int .i64 x358001_106] 38 (0, 0)) (blk_up BK357.out) hb); have n8_ := Aside0.mk (blk_below (g := gb358) (o := .cells #[.int .i64 0, .int .i64 0] 27 (0, 0)) (blk_up BK358.out) hb); have n9_ := Aside0.mk (below_step (by repeat (first | (with_reducible first | exact HB.out | apply below_alloc | apply pw_below_drewN | apply below_drew1 | refine below_set ?_ GE306.out | refine below_set ?_ GE327.out | refine below_set ?_ GE340.out | refine below_set ?_ GE347.out | refine below_set ?_ GE357.out | refine below_set ?_ GE358.out) | exact HB.out)) hb); clear HO_4; clear HO_10; clear HO_26; clear BK306; clear BK327; clear BK340; clear BK347; clear BK357; clear BK358; clear HB; have HO_4 := n0_; have HO_10 := n1_; have HO_26 := n2_; have BK306 := n3_; have BK327 := n4_; have BK340 := n5_; have BK347 := n6_; have BK357 := n7_; have BK358 := n8_; have HB := n9_; clear n0_ n1_ n2_ n3_ n4_ n5_ n6_ n7_ n8_ n9_; (try clear hb); (try clear hb2); (try clear hk); (try clear hi); have hnb142 := NB358_327.out; have hnc142 := NB327_358.out; have hnb143 := NB358_340.out; have hnc143 := NB340_358.out; have hnb144 := NB358_347.out; have hnc144 := NB347_358.out; have hnb145 := NB358_357.out; have hnc145 := NB357_358.out; have hcz146_0 : w141.cell? ⟨gb358, 0, none⟩ = some (.int .i64 0) := (blk_cell BK358.out 0).trans rfl; have hcz146_1 : w141.cell? ⟨gb358, 1, none⟩ = some (.int .i64 0) := (blk_cell BK358.out 1).trans rfl; have hfz146_0 := blk_frozen BK358.out 0; have hfz146_1 := blk_frozen BK358.out 1))
                                              go_meet
                                              case rel => exact ⟨_, (t368), (t369), H', ⟨by have := HJ6.out; have := HJ45.out; have := HJ84.out; have := HJ96.out; have := HJ106.out; have := HJ121.out; first | omega | exact Nat.le_refl _⟩, ⟨by (with_reducible repeat (first | apply Kd.R_alloc | apply Kd.R_drewN | apply Kd.R_drew)); exact Kd.R_mono (Kd.R_far (p := ⟨gb358, 1, none⟩) (Kd.R_far (p := ⟨gb358, 0, none⟩) (Kd.R_types HO_10.out BK358.out (by decide)) (fun _ hk => hk.2) (.int .i64 t368)) (fun _ hk => hk.2) (.int .i64 t369)) (fun _ hk => hk.1.2)⟩, ⟨by (with_reducible repeat (first | apply Kd.R_alloc | apply Kd.R_drewN | apply Kd.R_drew)); exact Kd.R_mono (Kd.R_far (p := ⟨gb358, 1, none⟩) (Kd.R_far (p := ⟨gb358, 0, none⟩) (Kd.R_types HO_26.out BK358.out (by decide)) (fun _ hk => hk.2) (.int .i64 t368)) (fun _ hk => hk.2) (.int .i64 t369)) (fun _ hk => hk.1.2)⟩, ⟨by (with_reducible repeat (first | refine blk_drewN ?_ _ | refine blk_drew ?_ | refine blk_alloc ?_ _)); refine blk_far ?_ NB306_358.out _; (with_reducible repeat (first | refine blk_drewN ?_ _ | refine blk_drew ?_ | refine blk_alloc ?_ _)); refine blk_far ?_ NB306_358.out _; (with_reducible repeat (first | refine blk_drewN ?_ _ | refine blk_drew ?_ | refine blk_alloc ?_ _)); exact BK306.out⟩, ⟨by (with_reducible repeat (first | refine blk_drewN ?_ _ | refine blk_drew ?_ | refine blk_alloc ?_ _)); refine blk_far ?_ NB327_358.out _; (with_reducible repeat (first | refine blk_drewN ?_ _ | refine blk_drew ?_ | refine blk_alloc ?_ _)); refine blk_far ?_ NB327_358.out _; (with_reducible repeat (first | refine blk_drewN ?_ _ | refine blk_drew ?_ | refine blk_alloc ?_ _)); exact BK327.out⟩, ⟨by (with_reducible repeat (first | refine blk_drewN ?_ _ | refine blk_drew ?_ | refine blk_alloc ?_ _)); refine blk_far ?_ NB340_358.out _; (with_reducible repeat (first | refine blk_drewN ?_ _ | refine blk_drew ?_ | refine blk_alloc ?_ _)); refine blk_far ?_ NB340_358.out _; (with_reducible repeat (first | refine blk_drewN ?_ _ | refine blk_drew ?_ | refine blk_alloc ?_ _)); exact BK340.out⟩, ⟨by (with_reducible repeat (first | refine blk_drewN ?_ _ | refine blk_drew ?_ | refine blk_alloc ?_ _)); refine blk_far ?_ NB347_358.out _; (with_reducible repeat (first | refine blk_drewN ?_ _ | refine blk_drew ?_ | refine blk_alloc ?_ _)); refine blk_far ?_ NB347_358.out _; (with_reducible repeat (first | refine blk_drewN ?_ _ | refine blk_drew ?_ | refine blk_alloc ?_ _)); exact BK347.out⟩, ⟨by (with_reducible repeat (first | refine blk_drewN ?_ _ | refine blk_drew ?_ | refine blk_alloc ?_ _)); refine blk_far ?_ NB357_358.out _; (with_reducible repeat (first | refine blk_drewN ?_ _ | refine blk_drew ?_ | refine blk_alloc ?_ _)); refine blk_far ?_ NB357_358.out _; (with_reducible repeat (first | refine blk_drewN ?_ _ | refine blk_drew ?_ | refine blk_alloc ?_ _)); exact BK357.out⟩, ⟨by (with_reducible repeat (first | refine blk_drewN ?_ _ | refine blk_drew ?_ | refine blk_alloc ?_ _)); refine blk_put (cs := #[.int .i64 t368, .int .i64 0]) ?_ 1 _ rfl; (with_reducible repeat (first | refine blk_drewN ?_ _ | refine blk_drew ?_ | refine blk_alloc ?_ _)); refine blk_put (cs := #[.int .i64 0, .int .i64 0]) ?_ 0 _ rfl; (with_reducible repeat (first | refine blk_drewN ?_ _ | refine blk_drew ?_ | refine blk_alloc ?_ _)); exact BK358.out⟩, ⟨by repeat (first | (with_reducible first | exact HB.out | apply below_alloc | apply pw_below_drewN | apply below_drew1 | refine below_set ?_ GE306.out | refine below_set ?_ GE327.out | refine below_set ?_ GE340.out | refine below_set ?_ GE347.out | refine below_set ?_ GE357.out | refine below_set ?_ GE358.out) | exact HB.out)⟩⟩
                                          · rw [if_neg c133] at H
                                            have c133b0 : (x9_6 == 0) = false := beq_eq_false_iff_ne.mpr c133; have c133b1 : (x9_6 != 0) = true := bne_iff_ne.mpr c133
                                            (first | rw [c133b0] | (simp only [i64_w, i32_w]; rw [c133b0]) | skip)
                                            as_aux_lemma =>
                                              have H' := Aside0.mk H; clear H
                                              go_wp2
                                              go_meet
                                              case rel => exact ⟨_, (0), (0), H', ⟨by have := HJ6.out; have := HJ45.out; have := HJ84.out; have := HJ96.out; have := HJ106.out; have := HJ121.out; first | omega | exact Nat.le_refl _⟩, ⟨by (with_reducible repeat (first | apply Kd.R_alloc | apply Kd.R_drewN | apply Kd.R_drew)); exact Kd.R_mono HO_10.out (fun _ hk => hk.2)⟩, ⟨by (with_reducible repeat (first | apply Kd.R_alloc | apply Kd.R_drewN | apply Kd.R_drew)); exact Kd.R_mono HO_26.out (fun _ hk => hk.2)⟩, ⟨by (with_reducible repeat (first | refine blk_drewN ?_ _ | refine blk_drew ?_ | refine blk_alloc ?_ _)); exact BK306.out⟩, ⟨by (with_reducible repeat (first | refine blk_drewN ?_ _ | refine blk_drew ?_ | refine blk_alloc ?_ _)); exact BK327.out⟩, ⟨by (with_reducible repeat (first | refine blk_drewN ?_ _ | refine blk_drew ?_ | refine blk_alloc ?_ _)); exact BK340.out⟩, ⟨by (with_reducible repeat (first | refine blk_drewN ?_ _ | refine blk_drew ?_ | refine blk_alloc ?_ _)); exact BK347.out⟩, ⟨by (with_reducible repeat (first | refine blk_drewN ?_ _ | refine blk_drew ?_ | refine blk_alloc ?_ _)); exact BK357.out⟩, ⟨by (with_reducible repeat (first | refine blk_drewN ?_ _ | refine blk_drew ?_ | refine blk_alloc ?_ _)); exact BK358.out⟩, ⟨by repeat (first | (with_reducible first | exact HB.out | apply below_alloc | apply pw_below_drewN | apply below_drew1 | refine below_set ?_ GE306.out | refine below_set ?_ GE327.out | refine below_set ?_ GE340.out | refine below_set ?_ GE347.out | refine below_set ?_ GE357.out | refine below_set ?_ GE358.out) | exact HB.out)⟩⟩
                                        case rest =>
                                          as_aux_lemma =>
                                            clear HC132
                                            try clear c1
                                            try clear c2
                                            try clear p2
                                            try clear c3
                                            try clear c4
                                            try clear c5
                                            try clear c6
                                            try clear c7
                                            try clear c8
                                            try clear c9
                                            try clear c10
                                            try clear c11
                                            try clear c12
                                            try clear c13
                                            try clear c14
                                            try clear c15
                                            try clear c16
                                            try clear c17
                                            try clear c18
                                            try clear c19
                                            try clear c20
                                            try clear c21
                                            try clear c22
                                            try clear c23
                                            try clear c24
                                            try clear c30
                                            try clear c31
                                            try clear c34
                                            try clear c35
                                            try clear c40
                                            try clear c40b0
                                            try clear c40b1
                                            try clear c47
                                            try clear c59
                                            try clear c60
                                            try clear c67
                                            try clear c68
                                            try clear c69
                                            try clear c71
                                            try clear c71b0
                                            try clear c71b1
                                            try clear c88
                                            try clear c88b0
                                            try clear c88b1
                                            try clear c90
                                            try clear c91
                                            try clear c92
                                            try clear c93
                                            try clear c94
                                            try clear c98
                                            try clear c98b0
                                            try clear c98b1
                                            try clear c100
                                            try clear c101
                                            try clear c102
                                            try clear c103
                                            try clear c104
                                            try clear c108
                                            try clear c108b0
                                            try clear c108b1
                                            try clear c110
                                            try clear c111
                                            try clear c112
                                            try clear c113
                                            try clear c114
                                            try clear c117
                                            try clear c118
                                            try clear c119
                                            try clear c120
                                            try clear c123
                                            try clear c123b0
                                            try clear c123b1
                                            try clear c125
                                            try clear c126
                                            try clear c127
                                            try clear c128
                                            try clear c129
                                            try clear c133
                                            try clear c133b0
                                            try clear c133b1
                                            try clear c135
                                            try clear c136
                                            try clear c137
                                            try clear c138
                                            try clear c139
                                            try clear c142
                                            try clear c143
                                            try clear c144
                                            try clear c145
                                            try clear hcz105_0
                                            try clear hcz105_1
                                            try clear hcz115_0
                                            try clear hcz115_1
                                            try clear hcz121_0
                                            try clear hcz121_1
                                            try clear hcz12_0
                                            try clear hcz12_1
                                            try clear hcz130_0
                                            try clear hcz130_1
                                            try clear hcz140_0
                                            try clear hcz140_1
                                            try clear hcz146_0
                                            try clear hcz146_1
                                            try clear hcz32_0
                                            try clear hcz32_1
                                            try clear hcz36_0
                                            try clear hcz36_1
                                            try clear hcz48_0
                                            try clear hcz48_1
                                            try clear hcz51_0
                                            try clear hcz51_1
                                            try clear hcz53_0
                                            try clear hcz53_1
                                            try clear hcz54_0
                                            try clear hcz54_1
                                            try clear hcz56_0
                                            try clear hcz56_1
                                            try clear hcz61_0
                                            try clear hcz61_1
                                            try clear hcz62_0
                                            try clear hcz62_1
                                            try clear hcz64_0
                                            try clear hcz64_1
                                            try clear hcz70_0
                                            try clear hcz70_1
                                            try clear hcz95_0
                                            try clear hcz95_1
                                            try clear hfz105_0
                                            try clear hfz105_1
                                            try clear hfz115_0
                                            try clear hfz115_1
                                            try clear hfz121_0
                                            try clear hfz121_1
                                            try clear hfz12_0
                                            try clear hfz12_1
                                            try clear hfz130_0
                                            try clear hfz130_1
                                            try clear hfz140_0
                                            try clear hfz140_1
                                            try clear hfz146_0
                                            try clear hfz146_1
                                            try clear hfz32_0
                                            try clear hfz32_1
                                            try clear hfz36_0
                                            try clear hfz36_1
                                            try clear hfz48_0
                                            try clear hfz48_1
                                            try clear hfz51_0
                                            try clear hfz51_1
                                            try clear hfz53_0
                                            try clear hfz53_1
                                            try clear hfz54_0
                                            try clear hfz54_1
                                            try clear hfz56_0
                                            try clear hfz56_1
                                            try clear hfz61_0
                                            try clear hfz61_1
                                            try clear hfz62_0
                                            try clear hfz62_1
                                            try clear hfz64_0
                                            try clear hfz64_1
                                            try clear hfz70_0
                                            try clear hfz70_1
                                            try clear hfz95_0
                                            try clear hfz95_1
                                            try clear p2
                                            obtain ⟨kq, x359000_131, x359001_131, HA, HJ131, HO_10, HO_26, BK306, BK327, BK340, BK347, BK357, BK358, HB⟩ := hcut
                                            cases kq with
                                            | zero => exact absurd HA.out (by simp [pilelaw1_HoursCounted.j6])
                                            | succ kj131 =>
                                              have H := HA.out; clear HA
                                              simp only [pilelaw1_HoursCounted.j6] at H
                                              by_cases c147 : t333 = x22_45
                                              · rw [if_pos c147] at H
                                                have c147b0 : (t333 == x22_45) = true := beq_iff_eq.mpr c147; have c147b1 : (t333 != x22_45) = false := bne_eq_false_iff_eq.mpr c147; clear c147; replace H := Option.bind_eq_some_iff.mp H; obtain ⟨t370, A1480, H⟩ := H; (replace H : (if t370 = true then (if t335 = x23_45 then (if t334 = x27_96 then (if t339 = x24_45 then (if (t336 == x358000_106 && (t337 == x358001_106)) = true then (if (t338 == x30_106) = true then (if t343 = x25_45 then (if t341 = x28_121 then (if t342 = x29_121 then (if t346 = x9_6 then (if (t344 == x359000_131 && (t345 == x359001_131)) = true then ((pilelaw1_rated.f kj131).bind fun t371 => (some t371)) else (some false)) else (some false)) else (some false)) else (some false)) else (some false)) else (some false)) else (some false)) else (some false)) else (some false)) else (some false)) else (some false)) = some r := H); have A148 := Aside0.mk A1480; clear A1480
                                                by_cases c149 : t370 = true
                                                · subst c149
                                                  (have H1 : (if t335 = x23_45 then (if t334 = x27_96 then (if t339 = x24_45 then (if (t336 == x358000_106 && (t337 == x358001_106)) = true then (if (t338 == x30_106) = true then (if t343 = x25_45 then (if t341 = x28_121 then (if t342 = x29_121 then (if t346 = x9_6 then (if (t344 == x359000_131 && (t345 == x359001_131)) = true then ((pilelaw1_rated.f kj131).bind fun t371 => (some t371)) else (some false)) else (some false)) else (some false)) else (some false)) else (some false)) else (some false)) else (some false)) else (some false)) else (some false)) else (some false)) = some r := by rw [if_pos rfl] at H; exact H); clear H; have H := H1; clear H1
                                                  by_cases c150 : t335 = x23_45
                                                  · rw [if_pos c150] at H
                                                    have c150b0 : (t335 == x23_45) = true := beq_iff_eq.mpr c150; have c150b1 : (t335 != x23_45) = false := bne_eq_false_iff_eq.mpr c150; clear c150
                                                    by_cases c151 : t334 = x27_96
                                                    · rw [if_pos c151] at H
                                                      have c151b0 : (t334 == x27_96) = true := beq_iff_eq.mpr c151; have c151b1 : (t334 != x27_96) = false := bne_eq_false_iff_eq.mpr c151; clear c151
                                                      by_cases c152 : t339 = x24_45
                                                      · rw [if_pos c152] at H
                                                        have c152b0 : (t339 == x24_45) = true := beq_iff_eq.mpr c152; have c152b1 : (t339 != x24_45) = false := bne_eq_false_iff_eq.mpr c152; clear c152
                                                        by_cases c153 : (t336 == x358000_106 && (t337 == x358001_106)) = true
                                                        · rw [if_pos c153] at H
                                                          have c153b0 : (t336 == x358000_106 && (t337 == x358001_106)) = true := c153; (try (have c153b1 : decide (t336 = x358000_106 && (t337 == x358001_106)) = true := by simpa using c153)); (try (have c153b2 : (t336 == x358000_106 && (t337 == x358001_106)) = true := by simpa using c153)); clear c153
                                                          by_cases c154 : (t338 == x30_106) = true
                                                          · rw [if_pos c154] at H
                                                            have c154b0 : (t338 == x30_106) = true := c154; (try (have c154b1 : decide (t338 = x30_106) = true := by simpa using c154)); (try (have c154b2 : (t338 == x30_106) = true := by simpa using c154)); clear c154
                                                            by_cases c155 : t343 = x25_45
                                                            · rw [if_pos c155] at H
                                                              have c155b0 : (t343 == x25_45) = true := beq_iff_eq.mpr c155; have c155b1 : (t343 != x25_45) = false := bne_eq_false_iff_eq.mpr c155; clear c155
                                                              by_cases c156 : t341 = x28_121
                                                              · rw [if_pos c156] at H
                                                                have c156b0 : (t341 == x28_121) = true := beq_iff_eq.mpr c156; have c156b1 : (t341 != x28_121) = false := bne_eq_false_iff_eq.mpr c156; clear c156
                                                                by_cases c157 : t342 = x29_121
                                                                · rw [if_pos c157] at H
                                                                  have c157b0 : (t342 == x29_121) = true := beq_iff_eq.mpr c157; have c157b1 : (t342 != x29_121) = false := bne_eq_false_iff_eq.mpr c157; clear c157
                                                                  by_cases c158 : t346 = x9_6
                                                                  · rw [if_pos c158] at H
                                                                    have c158b0 : (t346 == x9_6) = true := beq_iff_eq.mpr c158; have c158b1 : (t346 != x9_6) = false := bne_eq_false_iff_eq.mpr c158; clear c158
                                                                    by_cases c159 : (t344 == x359000_131 && (t345 == x359001_131)) = true
                                                                    · rw [if_pos c159] at H
                                                                      have c159b0 : (t344 == x359000_131 && (t345 == x359001_131)) = true := c159; (try (have c159b1 : decide (t344 = x359000_131 && (t345 == x359001_131)) = true := by simpa using c159)); (try (have c159b2 : (t344 == x359000_131 && (t345 == x359001_131)) = true := by simpa using c159)); clear c159; replace H := Option.bind_eq_some_iff.mp H; obtain ⟨t371, A1600, H⟩ := H; replace H : (some t371) = some r := H; have A160 := Aside0.mk A1600; clear A1600
                                                                      as_aux_lemma =>
                                                                        obtain rfl := Option.some.inj H; obtain ⟨Ao161, co161, eo161⟩ := Kd.R_slice HO_10.out; subst eo161; obtain ⟨Ao162, co162, eo162⟩ := Kd.R_slice HO_26.out; subst eo162
                                                                        go_wp2_with (first | (go_at_call 25; (with_reducible refine (slices_Equal_int_int.calls kj131 _ _ t330 _ _ x26_84 true _ ?side1 ?side2 ?side3 ?side4 A148.out).mono ?_); (case side1 => repeat (first | exact (Kd.R_reads' HO_10.out).2.2 | (with_reducible refine Kd.C_alloc ?_ _) | (with_reducible refine Kd.C_drewN ?_ _) | (with_reducible refine Kd.C_drew ?_))); (case side2 => exact (Kd.R_reads' HO_10.out).2.1); (case side3 => repeat (first | exact (Kd.R_reads' HO_26.out).2.2 | (with_reducible refine Kd.C_alloc ?_ _) | (with_reducible refine Kd.C_drewN ?_ _) | (with_reducible refine Kd.C_drew ?_))); (case side4 => exact (Kd.R_reads' HO_26.out).2.1); rintro e w' ⟨rfl, ⟨nd, rfl⟩⟩; have hnb163 := NB340_306.out; have hnc163 := NB306_340.out; have hnb164 := NB340_327.out; have hnc164 := NB327_340.out; have hnb165 := NB340_347.out; have hnc165 := NB347_340.out; have hnb166 := NB340_357.out; have hnc166 := NB357_340.out; have hnb167 := NB340_358.out; have hnc167 := NB358_340.out; have hcz168_0 : wc.cell? ⟨gb340, 0, none⟩ = some (.int .i64 t336) := (blk_cell BK340.out 0).trans rfl; have hcz168_1 : wc.cell? ⟨gb340, 1, none⟩ = some (.int .i64 t337) := (blk_cell BK340.out 1).trans rfl; have hfz168_0 := blk_frozen BK340.out 0; have hfz168_1 := blk_frozen BK340.out 1; have hnb169 := NB357_306.out; have hnc169 := NB306_357.out; have hnb170 := NB357_327.out; have hnc170 := NB327_357.out; have hnb171 := NB357_347.out; have hnc171 := NB347_357.out; have hnb172 := NB357_358.out; have hnc172 := NB358_357.out; have hcz173_0 : wc.cell? ⟨gb357, 0, none⟩ = some (.int .i64 x358000_106) := (blk_cell BK357.out 0).trans rfl; have hcz173_1 : wc.cell? ⟨gb357, 1, none⟩ = some (.int .i64 x358001_106) := (blk_cell BK357.out 1).trans rfl; have hfz173_0 := blk_frozen BK357.out 0; have hfz173_1 := blk_frozen BK357.out 1; have hnb174 := NB347_306.out; have hnc174 := NB306_347.out; have hnb175 := NB347_327.out; have hnc175 := NB327_347.out; have hnb176 := NB347_358.out; have hnc176 := NB358_347.out; have hcz177_0 : wc.cell? ⟨gb347, 0, none⟩ = some (.int .i64 t344) := (blk_cell BK347.out 0).trans rfl; have hcz177_1 : wc.cell? ⟨gb347, 1, none⟩ = some (.int .i64 t345) := (blk_cell BK347.out 1).trans rfl; have hfz177_0 := blk_frozen BK347.out 0; have hfz177_1 := blk_frozen BK347.out 1; have hnb178 := NB358_306.out; have hnc178 := NB306_358.out; have hnb179 := NB358_327.out; have hnc179 := NB327_358.out; have hcz180_0 : wc.cell? ⟨gb358, 0, none⟩ = some (.int .i64 x359000_131) := (blk_cell BK358.out 0).trans rfl; have hcz180_1 : wc.cell? ⟨gb358, 1, none⟩ = some (.int .i64 x359001_131) := (blk_cell BK358.out 1).trans rfl; have hfz180_0 := blk_frozen BK358.out 0; have hfz180_1 := blk_frozen BK358.out 1) | (go_at_call 26; (with_reducible refine (pilelaw1_rated.calls kj131  t371 _ A160.out).mono ?_); rintro e w181 ⟨rfl, hb⟩; have n0_ := Aside0.mk (Kd.R_below (Kd.R_up HO_10.out) hb); have n1_ := Aside0.mk (Kd.R_below (Kd.R_up HO_26.out) hb); have n2_ := Aside0.mk (blk_below (g := gb306) (o := .cells #[.int .i64 t303, .int .i64 t304] 27 (0, 0)) (blk_up BK306.out) hb); have n3_ := Aside0.mk (blk_below (g := gb327) (o := .cells #[.int .i64 t310, .int .i64 t315] 27 (0, 0)) (blk_up BK327.out) hb); have n4_ := Aside0.mk (blk_below (g := gb340) (o := .cells #[.int .i64 t336, .int .i64 t337] 38 (0, 0)) (blk_up BK340.out) hb); have n5_ := Aside0.mk (blk_below (g := gb347) (o := .cells #[.int .i64 t344, .int .i64 t345] 27 (0, 0)) (blk_up BK347.out) hb); have n6_ := Aside0.mk (blk_below (g := gb357) (o := .cells #[.int .i64 x358000_106, .int .i64 x358001_106] 38 (0, 0)) (blk_up BK357.out) hb); have n7_ := Aside0.mk (blk_below (g := gb358) (o := .cells #[.int .i64 x359000_131, .int .i64 x359001_131] 27 (0, 0)) (blk_up BK358.out) hb); have n8_ := Aside0.mk (below_step (by repeat (first | (with_reducible first | exact HB.out | apply below_alloc | apply pw_below_drewN | apply below_drew1 | refine below_set ?_ GE306.out | refine below_set ?_ GE327.out | refine below_set ?_ GE340.out | refine below_set ?_ GE347.out | refine below_set ?_ GE357.out | refine below_set ?_ GE358.out) | exact HB.out)) hb); clear HO_10; clear HO_26; clear BK306; clear BK327; clear BK340; clear BK347; clear BK357; clear BK358; clear HB; have HO_10 := n0_; have HO_26 := n1_; have BK306 := n2_; have BK327 := n3_; have BK340 := n4_; have BK347 := n5_; have BK357 := n6_; have BK358 := n7_; have HB := n8_; clear n0_ n1_ n2_ n3_ n4_ n5_ n6_ n7_ n8_; (try clear hb); (try clear hb2); (try clear hk); (try clear hi)))
                                                                        go_ret
                                                                        exact ⟨by first | rfl | (simp [errW_none, errW_some] <;> rfl) | (simp [*, errW_none, errW_some] <;> rfl), by repeat (first | (with_reducible first | exact HB.out | apply below_alloc | apply pw_below_drewN | apply below_drew1 | refine below_set ?_ GE306.out | refine below_set ?_ GE327.out | refine below_set ?_ GE340.out | refine below_set ?_ GE347.out | refine below_set ?_ GE357.out | refine below_set ?_ GE358.out) | exact HB.out)⟩
                                                                    · rw [if_neg c159] at H
                                                                      (have c159b0 : (t344 == x359000_131 && (t345 == x359001_131)) = false := by simpa using c159); (try (have c159b1 : decide (t344 = x359000_131 && (t345 == x359001_131)) = false := by simpa using c159)); (try (have c159b2 : (t344 == x359000_131 && (t345 == x359001_131)) = false := by simpa using c159)); (try (have c159b3 : ¬ (t344 = x359000_131 && (t345 == x359001_131)) := by simpa using c159)); clear c159
                                                                      as_aux_lemma =>
                                                                        obtain rfl := Option.some.inj H; obtain ⟨Ao182, co182, eo182⟩ := Kd.R_slice HO_10.out; subst eo182; obtain ⟨Ao183, co183, eo183⟩ := Kd.R_slice HO_26.out; subst eo183
                                                                        go_wp2_with (first | (go_at_call 25; (with_reducible refine (slices_Equal_int_int.calls kj131 _ _ t330 _ _ x26_84 true _ ?side1 ?side2 ?side3 ?side4 A148.out).mono ?_); (case side1 => repeat (first | exact (Kd.R_reads' HO_10.out).2.2 | (with_reducible refine Kd.C_alloc ?_ _) | (with_reducible refine Kd.C_drewN ?_ _) | (with_reducible refine Kd.C_drew ?_))); (case side2 => exact (Kd.R_reads' HO_10.out).2.1); (case side3 => repeat (first | exact (Kd.R_reads' HO_26.out).2.2 | (with_reducible refine Kd.C_alloc ?_ _) | (with_reducible refine Kd.C_drewN ?_ _) | (with_reducible refine Kd.C_drew ?_))); (case side4 => exact (Kd.R_reads' HO_26.out).2.1); rintro e w' ⟨rfl, ⟨nd, rfl⟩⟩; have hnb184 := NB340_306.out; have hnc184 := NB306_340.out; have hnb185 := NB340_327.out; have hnc185 := NB327_340.out; have hnb186 := NB340_347.out; have hnc186 := NB347_340.out; have hnb187 := NB340_357.out; have hnc187 := NB357_340.out; have hnb188 := NB340_358.out; have hnc188 := NB358_340.out; have hcz189_0 : wc.cell? ⟨gb340, 0, none⟩ = some (.int .i64 t336) := (blk_cell BK340.out 0).trans rfl; have hcz189_1 : wc.cell? ⟨gb340, 1, none⟩ = some (.int .i64 t337) := (blk_cell BK340.out 1).trans rfl; have hfz189_0 := blk_frozen BK340.out 0; have hfz189_1 := blk_frozen BK340.out 1; have hnb190 := NB357_306.out; have hnc190 := NB306_357.out; have hnb191 := NB357_327.out; have hnc191 := NB327_357.out; have hnb192 := NB357_347.out; have hnc192 := NB347_357.out; have hnb193 := NB357_358.out; have hnc193 := NB358_357.out; have hcz194_0 : wc.cell? ⟨gb357, 0, none⟩ = some (.int .i64 x358000_106) := (blk_cell BK357.out 0).trans rfl; have hcz194_1 : wc.cell? ⟨gb357, 1, none⟩ = some (.int .i64 x358001_106) := (blk_cell BK357.out 1).trans rfl; have hfz194_0 := blk_frozen BK357.out 0; have hfz194_1 := blk_frozen BK357.out 1; have hnb195 := NB347_306.out; have hnc195 := NB306_347.out; have hnb196 := NB347_327.out; have hnc196 := NB327_347.out; have hnb197 := NB347_358.out; have hnc197 := NB358_347.out; have hcz198_0 : wc.cell? ⟨gb347, 0, none⟩ = some (.int .i64 t344) := (blk_cell BK347.out 0).trans rfl; have hcz198_1 : wc.cell? ⟨gb347, 1, none⟩ = some (.int .i64 t345) := (blk_cell BK347.out 1).trans rfl; have hfz198_0 := blk_frozen BK347.out 0; have hfz198_1 := blk_frozen BK347.out 1; have hnb199 := NB358_306.out; have hnc199 := NB306_358.out; have hnb200 := NB358_327.out; have hnc200 := NB327_358.out; have hcz201_0 : wc.cell? ⟨gb358, 0, none⟩ = some (.int .i64 x359000_131) := (blk_cell BK358.out 0).trans rfl; have hcz201_1 : wc.cell? ⟨gb358, 1, none⟩ = some (.int .i64 x359001_131) := (blk_cell BK358.out 1).trans rfl; have hfz201_0 := blk_frozen BK358.out 0; have hfz201_1 := blk_frozen BK358.out 1))
                                                                        go_ret
                                                                        exact ⟨by first | rfl | (simp [errW_none, errW_some] <;> rfl) | (simp [*, errW_none, errW_some] <;> rfl), by repeat (first | (with_reducible first | exact HB.out | apply below_alloc | apply pw_below_drewN | apply below_drew1 | refine below_set ?_ GE306.out | refine below_set ?_ GE327.out | refine below_set ?_ GE340.out | refine below_set ?_ GE347.out | refine below_set ?_ GE357.out | refine below_set ?_ GE358.out) | exact HB.out)⟩
                                                                  · rw [if_neg c158] at H
                                                                    have c158b0 : (t346 == x9_6) = false := beq_eq_false_iff_ne.mpr c158; have c158b1 : (t346 != x9_6) = true := bne_iff_ne.mpr c158
                                                                    as_aux_lemma =>
                                                                      obtain rfl := Option.some.inj H; obtain ⟨Ao202, co202, eo202⟩ := Kd.R_slice HO_10.out; subst eo202; obtain ⟨Ao203, co203, eo203⟩ := Kd.R_slice HO_26.out; subst eo203
                                                                      go_wp2_with (first | (go_at_call 25; (with_reducible refine (slices_Equal_int_int.calls kj131 _ _ t330 _ _ x26_84 true _ ?side1 ?side2 ?side3 ?side4 A148.out).mono ?_); (case side1 => repeat (first | exact (Kd.R_reads' HO_10.out).2.2 | (with_reducible refine Kd.C_alloc ?_ _) | (with_reducible refine Kd.C_drewN ?_ _) | (with_reducible refine Kd.C_drew ?_))); (case side2 => exact (Kd.R_reads' HO_10.out).2.1); (case side3 => repeat (first | exact (Kd.R_reads' HO_26.out).2.2 | (with_reducible refine Kd.C_alloc ?_ _) | (with_reducible refine Kd.C_drewN ?_ _) | (with_reducible refine Kd.C_drew ?_))); (case side4 => exact (Kd.R_reads' HO_26.out).2.1); rintro e w' ⟨rfl, ⟨nd, rfl⟩⟩; have hnb204 := NB340_306.out; have hnc204 := NB306_340.out; have hnb205 := NB340_327.out; have hnc205 := NB327_340.out; have hnb206 := NB340_347.out; have hnc206 := NB347_340.out; have hnb207 := NB340_357.out; have hnc207 := NB357_340.out; have hnb208 := NB340_358.out; have hnc208 := NB358_340.out; have hcz209_0 : wc.cell? ⟨gb340, 0, none⟩ = some (.int .i64 t336) := (blk_cell BK340.out 0).trans rfl; have hcz209_1 : wc.cell? ⟨gb340, 1, none⟩ = some (.int .i64 t337) := (blk_cell BK340.out 1).trans rfl; have hfz209_0 := blk_frozen BK340.out 0; have hfz209_1 := blk_frozen BK340.out 1; have hnb210 := NB357_306.out; have hnc210 := NB306_357.out; have hnb211 := NB357_327.out; have hnc211 := NB327_357.out; have hnb212 := NB357_347.out; have hnc212 := NB347_357.out; have hnb213 := NB357_358.out; have hnc213 := NB358_357.out; have hcz214_0 : wc.cell? ⟨gb357, 0, none⟩ = some (.int .i64 x358000_106) := (blk_cell BK357.out 0).trans rfl; have hcz214_1 : wc.cell? ⟨gb357, 1, none⟩ = some (.int .i64 x358001_106) := (blk_cell BK357.out 1).trans rfl; have hfz214_0 := blk_frozen BK357.out 0; have hfz214_1 := blk_frozen BK357.out 1))
                                                                      go_ret
                                                                      exact ⟨by first | rfl | (simp [errW_none, errW_some] <;> rfl) | (simp [*, errW_none, errW_some] <;> rfl), by repeat (first | (with_reducible first | exact HB.out | apply below_alloc | apply pw_below_drewN | apply below_drew1 | refine below_set ?_ GE306.out | refine below_set ?_ GE327.out | refine below_set ?_ GE340.out | refine below_set ?_ GE347.out | refine below_set ?_ GE357.out | refine below_set ?_ GE358.out) | exact HB.out)⟩
                                                                · rw [if_neg c157] at H
                                                                  have c157b0 : (t342 == x29_121) = false := beq_eq_false_iff_ne.mpr c157; have c157b1 : (t342 != x29_121) = true := bne_iff_ne.mpr c157
                                                                  as_aux_lemma =>
                                                                    obtain rfl := Option.some.inj H; obtain ⟨Ao215, co215, eo215⟩ := Kd.R_slice HO_10.out; subst eo215; obtain ⟨Ao216, co216, eo216⟩ := Kd.R_slice HO_26.out; subst eo216
                                                                    go_wp2_with (first | (go_at_call 25; (with_reducible refine (slices_Equal_int_int.calls kj131 _ _ t330 _ _ x26_84 true _ ?side1 ?side2 ?side3 ?side4 A148.out).mono ?_); (case side1 => repeat (first | exact (Kd.R_reads' HO_10.out).2.2 | (with_reducible refine Kd.C_alloc ?_ _) | (with_reducible refine Kd.C_drewN ?_ _) | (with_reducible refine Kd.C_drew ?_))); (case side2 => exact (Kd.R_reads' HO_10.out).2.1); (case side3 => repeat (first | exact (Kd.R_reads' HO_26.out).2.2 | (with_reducible refine Kd.C_alloc ?_ _) | (with_reducible refine Kd.C_drewN ?_ _) | (with_reducible refine Kd.C_drew ?_))); (case side4 => exact (Kd.R_reads' HO_26.out).2.1); rintro e w' ⟨rfl, ⟨nd, rfl⟩⟩; have hnb217 := NB340_306.out; have hnc217 := NB306_340.out; have hnb218 := NB340_327.out; have hnc218 := NB327_340.out; have hnb219 := NB340_347.out; have hnc219 := NB347_340.out; have hnb220 := NB340_357.out; have hnc220 := NB357_340.out; have hnb221 := NB340_358.out; have hnc221 := NB358_340.out; have hcz222_0 : wc.cell? ⟨gb340, 0, none⟩ = some (.int .i64 t336) := (blk_cell BK340.out 0).trans rfl; have hcz222_1 : wc.cell? ⟨gb340, 1, none⟩ = some (.int .i64 t337) := (blk_cell BK340.out 1).trans rfl; have hfz222_0 := blk_frozen BK340.out 0; have hfz222_1 := blk_frozen BK340.out 1; have hnb223 := NB357_306.out; have hnc223 := NB306_357.out; have hnb224 := NB357_327.out; have hnc224 := NB327_357.out; have hnb225 := NB357_347.out; have hnc225 := NB347_357.out; have hnb226 := NB357_358.out; have hnc226 := NB358_357.out; have hcz227_0 : wc.cell? ⟨gb357, 0, none⟩ = some (.int .i64 x358000_106) := (blk_cell BK357.out 0).trans rfl; have hcz227_1 : wc.cell? ⟨gb357, 1, none⟩ = some (.int .i64 x358001_106) := (blk_cell BK357.out 1).trans rfl; have hfz227_0 := blk_frozen BK357.out 0; have hfz227_1 := blk_frozen BK357.out 1))
                                                                    go_ret
                                                                    exact ⟨by first | rfl | (simp [errW_none, errW_some] <;> rfl) | (simp [*, errW_none, errW_some] <;> rfl), by repeat (first | (with_reducible first | exact HB.out | apply below_alloc | apply pw_below_drewN | apply below_drew1 | refine below_set ?_ GE306.out | refine below_set ?_ GE327.out | refine below_set ?_ GE340.out | refine below_set ?_ GE347.out | refine below_set ?_ GE357.out | refine below_set ?_ GE358.out) | exact HB.out)⟩
                                                              · rw [if_neg c156] at H
                                                                have c156b0 : (t341 == x28_121) = false := beq_eq_false_iff_ne.mpr c156; have c156b1 : (t341 != x28_121) = true := bne_iff_ne.mpr c156
                                                                as_aux_lemma =>
                                                                  obtain rfl := Option.some.inj H; obtain ⟨Ao228, co228, eo228⟩ := Kd.R_slice HO_10.out; subst eo228; obtain ⟨Ao229, co229, eo229⟩ := Kd.R_slice HO_26.out; subst eo229
                                                                  go_wp2_with (first | (go_at_call 25; (with_reducible refine (slices_Equal_int_int.calls kj131 _ _ t330 _ _ x26_84 true _ ?side1 ?side2 ?side3 ?side4 A148.out).mono ?_); (case side1 => repeat (first | exact (Kd.R_reads' HO_10.out).2.2 | (with_reducible refine Kd.C_alloc ?_ _) | (with_reducible refine Kd.C_drewN ?_ _) | (with_reducible refine Kd.C_drew ?_))); (case side2 => exact (Kd.R_reads' HO_10.out).2.1); (case side3 => repeat (first | exact (Kd.R_reads' HO_26.out).2.2 | (with_reducible refine Kd.C_alloc ?_ _) | (with_reducible refine Kd.C_drewN ?_ _) | (with_reducible refine Kd.C_drew ?_))); (case side4 => exact (Kd.R_reads' HO_26.out).2.1); rintro e w' ⟨rfl, ⟨nd, rfl⟩⟩; have hnb230 := NB340_306.out; have hnc230 := NB306_340.out; have hnb231 := NB340_327.out; have hnc231 := NB327_340.out; have hnb232 := NB340_347.out; have hnc232 := NB347_340.out; have hnb233 := NB340_357.out; have hnc233 := NB357_340.out; have hnb234 := NB340_358.out; have hnc234 := NB358_340.out; have hcz235_0 : wc.cell? ⟨gb340, 0, none⟩ = some (.int .i64 t336) := (blk_cell BK340.out 0).trans rfl; have hcz235_1 : wc.cell? ⟨gb340, 1, none⟩ = some (.int .i64 t337) := (blk_cell BK340.out 1).trans rfl; have hfz235_0 := blk_frozen BK340.out 0; have hfz235_1 := blk_frozen BK340.out 1; have hnb236 := NB357_306.out; have hnc236 := NB306_357.out; have hnb237 := NB357_327.out; have hnc237 := NB327_357.out; have hnb238 := NB357_347.out; have hnc238 := NB347_357.out; have hnb239 := NB357_358.out; have hnc239 := NB358_357.out; have hcz240_0 : wc.cell? ⟨gb357, 0, none⟩ = some (.int .i64 x358000_106) := (blk_cell BK357.out 0).trans rfl; have hcz240_1 : wc.cell? ⟨gb357, 1, none⟩ = some (.int .i64 x358001_106) := (blk_cell BK357.out 1).trans rfl; have hfz240_0 := blk_frozen BK357.out 0; have hfz240_1 := blk_frozen BK357.out 1))
                                                                  go_ret
                                                                  exact ⟨by first | rfl | (simp [errW_none, errW_some] <;> rfl) | (simp [*, errW_none, errW_some] <;> rfl), by repeat (first | (with_reducible first | exact HB.out | apply below_alloc | apply pw_below_drewN | apply below_drew1 | refine below_set ?_ GE306.out | refine below_set ?_ GE327.out | refine below_set ?_ GE340.out | refine below_set ?_ GE347.out | refine below_set ?_ GE357.out | refine below_set ?_ GE358.out) | exact HB.out)⟩
                                                            · rw [if_neg c155] at H
                                                              have c155b0 : (t343 == x25_45) = false := beq_eq_false_iff_ne.mpr c155; have c155b1 : (t343 != x25_45) = true := bne_iff_ne.mpr c155
                                                              as_aux_lemma =>
                                                                obtain rfl := Option.some.inj H; obtain ⟨Ao241, co241, eo241⟩ := Kd.R_slice HO_10.out; subst eo241; obtain ⟨Ao242, co242, eo242⟩ := Kd.R_slice HO_26.out; subst eo242
                                                                go_wp2_with (first | (go_at_call 25; (with_reducible refine (slices_Equal_int_int.calls kj131 _ _ t330 _ _ x26_84 true _ ?side1 ?side2 ?side3 ?side4 A148.out).mono ?_); (case side1 => repeat (first | exact (Kd.R_reads' HO_10.out).2.2 | (with_reducible refine Kd.C_alloc ?_ _) | (with_reducible refine Kd.C_drewN ?_ _) | (with_reducible refine Kd.C_drew ?_))); (case side2 => exact (Kd.R_reads' HO_10.out).2.1); (case side3 => repeat (first | exact (Kd.R_reads' HO_26.out).2.2 | (with_reducible refine Kd.C_alloc ?_ _) | (with_reducible refine Kd.C_drewN ?_ _) | (with_reducible refine Kd.C_drew ?_))); (case side4 => exact (Kd.R_reads' HO_26.out).2.1); rintro e w' ⟨rfl, ⟨nd, rfl⟩⟩; have hnb243 := NB340_306.out; have hnc243 := NB306_340.out; have hnb244 := NB340_327.out; have hnc244 := NB327_340.out; have hnb245 := NB340_347.out; have hnc245 := NB347_340.out; have hnb246 := NB340_357.out; have hnc246 := NB357_340.out; have hnb247 := NB340_358.out; have hnc247 := NB358_340.out; have hcz248_0 : wc.cell? ⟨gb340, 0, none⟩ = some (.int .i64 t336) := (blk_cell BK340.out 0).trans rfl; have hcz248_1 : wc.cell? ⟨gb340, 1, none⟩ = some (.int .i64 t337) := (blk_cell BK340.out 1).trans rfl; have hfz248_0 := blk_frozen BK340.out 0; have hfz248_1 := blk_frozen BK340.out 1; have hnb249 := NB357_306.out; have hnc249 := NB306_357.out; have hnb250 := NB357_327.out; have hnc250 := NB327_357.out; have hnb251 := NB357_347.out; have hnc251 := NB347_357.out; have hnb252 := NB357_358.out; have hnc252 := NB358_357.out; have hcz253_0 : wc.cell? ⟨gb357, 0, none⟩ = some (.int .i64 x358000_106) := (blk_cell BK357.out 0).trans rfl; have hcz253_1 : wc.cell? ⟨gb357, 1, none⟩ = some (.int .i64 x358001_106) := (blk_cell BK357.out 1).trans rfl; have hfz253_0 := blk_frozen BK357.out 0; have hfz253_1 := blk_frozen BK357.out 1))
                                                                go_ret
                                                                exact ⟨by first | rfl | (simp [errW_none, errW_some] <;> rfl) | (simp [*, errW_none, errW_some] <;> rfl), by repeat (first | (with_reducible first | exact HB.out | apply below_alloc | apply pw_below_drewN | apply below_drew1 | refine below_set ?_ GE306.out | refine below_set ?_ GE327.out | refine below_set ?_ GE340.out | refine below_set ?_ GE347.out | refine below_set ?_ GE357.out | refine below_set ?_ GE358.out) | exact HB.out)⟩
                                                          · rw [if_neg c154] at H
                                                            (have c154b0 : (t338 == x30_106) = false := by simpa using c154); (try (have c154b1 : decide (t338 = x30_106) = false := by simpa using c154)); (try (have c154b2 : (t338 == x30_106) = false := by simpa using c154)); (try (have c154b3 : ¬ (t338 = x30_106) := by simpa using c154)); clear c154
                                                            as_aux_lemma =>
                                                              obtain rfl := Option.some.inj H; obtain ⟨Ao254, co254, eo254⟩ := Kd.R_slice HO_10.out; subst eo254; obtain ⟨Ao255, co255, eo255⟩ := Kd.R_slice HO_26.out; subst eo255
                                                              go_wp2_with (first | (go_at_call 25; (with_reducible refine (slices_Equal_int_int.calls kj131 _ _ t330 _ _ x26_84 true _ ?side1 ?side2 ?side3 ?side4 A148.out).mono ?_); (case side1 => repeat (first | exact (Kd.R_reads' HO_10.out).2.2 | (with_reducible refine Kd.C_alloc ?_ _) | (with_reducible refine Kd.C_drewN ?_ _) | (with_reducible refine Kd.C_drew ?_))); (case side2 => exact (Kd.R_reads' HO_10.out).2.1); (case side3 => repeat (first | exact (Kd.R_reads' HO_26.out).2.2 | (with_reducible refine Kd.C_alloc ?_ _) | (with_reducible refine Kd.C_drewN ?_ _) | (with_reducible refine Kd.C_drew ?_))); (case side4 => exact (Kd.R_reads' HO_26.out).2.1); rintro e w' ⟨rfl, ⟨nd, rfl⟩⟩; have hnb256 := NB340_306.out; have hnc256 := NB306_340.out; have hnb257 := NB340_327.out; have hnc257 := NB327_340.out; have hnb258 := NB340_347.out; have hnc258 := NB347_340.out; have hnb259 := NB340_357.out; have hnc259 := NB357_340.out; have hnb260 := NB340_358.out; have hnc260 := NB358_340.out; have hcz261_0 : wc.cell? ⟨gb340, 0, none⟩ = some (.int .i64 t336) := (blk_cell BK340.out 0).trans rfl; have hcz261_1 : wc.cell? ⟨gb340, 1, none⟩ = some (.int .i64 t337) := (blk_cell BK340.out 1).trans rfl; have hfz261_0 := blk_frozen BK340.out 0; have hfz261_1 := blk_frozen BK340.out 1; have hnb262 := NB357_306.out; have hnc262 := NB306_357.out; have hnb263 := NB357_327.out; have hnc263 := NB327_357.out; have hnb264 := NB357_347.out; have hnc264 := NB347_357.out; have hnb265 := NB357_358.out; have hnc265 := NB358_357.out; have hcz266_0 : wc.cell? ⟨gb357, 0, none⟩ = some (.int .i64 x358000_106) := (blk_cell BK357.out 0).trans rfl; have hcz266_1 : wc.cell? ⟨gb357, 1, none⟩ = some (.int .i64 x358001_106) := (blk_cell BK357.out 1).trans rfl; have hfz266_0 := blk_frozen BK357.out 0; have hfz266_1 := blk_frozen BK357.out 1))
                                                              go_ret
                                                              exact ⟨by first | rfl | (simp [errW_none, errW_some] <;> rfl) | (simp [*, errW_none, errW_some] <;> rfl), by repeat (first | (with_reducible first | exact HB.out | apply below_alloc | apply pw_below_drewN | apply below_drew1 | refine below_set ?_ GE306.out | refine below_set ?_ GE327.out | refine below_set ?_ GE340.out | refine below_set ?_ GE347.out | refine below_set ?_ GE357.out | refine below_set ?_ GE358.out) | exact HB.out)⟩
                                                        · rw [if_neg c153] at H
                                                          (have c153b0 : (t336 == x358000_106 && (t337 == x358001_106)) = false := by simpa using c153); (try (have c153b1 : decide (t336 = x358000_106 && (t337 == x358001_106)) = false := by simpa using c153)); (try (have c153b2 : (t336 == x358000_106 && (t337 == x358001_106)) = false := by simpa using c153)); (try (have c153b3 : ¬ (t336 = x358000_106 && (t337 == x358001_106)) := by simpa using c153)); clear c153
                                                          as_aux_lemma =>
                                                            obtain rfl := Option.some.inj H; obtain ⟨Ao267, co267, eo267⟩ := Kd.R_slice HO_10.out; subst eo267; obtain ⟨Ao268, co268, eo268⟩ := Kd.R_slice HO_26.out; subst eo268
                                                            go_wp2_with (first | (go_at_call 25; (with_reducible refine (slices_Equal_int_int.calls kj131 _ _ t330 _ _ x26_84 true _ ?side1 ?side2 ?side3 ?side4 A148.out).mono ?_); (case side1 => repeat (first | exact (Kd.R_reads' HO_10.out).2.2 | (with_reducible refine Kd.C_alloc ?_ _) | (with_reducible refine Kd.C_drewN ?_ _) | (with_reducible refine Kd.C_drew ?_))); (case side2 => exact (Kd.R_reads' HO_10.out).2.1); (case side3 => repeat (first | exact (Kd.R_reads' HO_26.out).2.2 | (with_reducible refine Kd.C_alloc ?_ _) | (with_reducible refine Kd.C_drewN ?_ _) | (with_reducible refine Kd.C_drew ?_))); (case side4 => exact (Kd.R_reads' HO_26.out).2.1); rintro e w' ⟨rfl, ⟨nd, rfl⟩⟩; have hnb269 := NB340_306.out; have hnc269 := NB306_340.out; have hnb270 := NB340_327.out; have hnc270 := NB327_340.out; have hnb271 := NB340_347.out; have hnc271 := NB347_340.out; have hnb272 := NB340_357.out; have hnc272 := NB357_340.out; have hnb273 := NB340_358.out; have hnc273 := NB358_340.out; have hcz274_0 : wc.cell? ⟨gb340, 0, none⟩ = some (.int .i64 t336) := (blk_cell BK340.out 0).trans rfl; have hcz274_1 : wc.cell? ⟨gb340, 1, none⟩ = some (.int .i64 t337) := (blk_cell BK340.out 1).trans rfl; have hfz274_0 := blk_frozen BK340.out 0; have hfz274_1 := blk_frozen BK340.out 1; have hnb275 := NB357_306.out; have hnc275 := NB306_357.out; have hnb276 := NB357_327.out; have hnc276 := NB327_357.out; have hnb277 := NB357_347.out; have hnc277 := NB347_357.out; have hnb278 := NB357_358.out; have hnc278 := NB358_357.out; have hcz279_0 : wc.cell? ⟨gb357, 0, none⟩ = some (.int .i64 x358000_106) := (blk_cell BK357.out 0).trans rfl; have hcz279_1 : wc.cell? ⟨gb357, 1, none⟩ = some (.int .i64 x358001_106) := (blk_cell BK357.out 1).trans rfl; have hfz279_0 := blk_frozen BK357.out 0; have hfz279_1 := blk_frozen BK357.out 1))
                                                            go_ret
                                                            exact ⟨by first | rfl | (simp [errW_none, errW_some] <;> rfl) | (simp [*, errW_none, errW_some] <;> rfl), by repeat (first | (with_reducible first | exact HB.out | apply below_alloc | apply pw_below_drewN | apply below_drew1 | refine below_set ?_ GE306.out | refine below_set ?_ GE327.out | refine below_set ?_ GE340.out | refine below_set ?_ GE347.out | refine below_set ?_ GE357.out | refine below_set ?_ GE358.out) | exact HB.out)⟩
                                                      · rw [if_neg c152] at H
                                                        have c152b0 : (t339 == x24_45) = false := beq_eq_false_iff_ne.mpr c152; have c152b1 : (t339 != x24_45) = true := bne_iff_ne.mpr c152
                                                        as_aux_lemma =>
                                                          obtain rfl := Option.some.inj H; obtain ⟨Ao280, co280, eo280⟩ := Kd.R_slice HO_10.out; subst eo280; obtain ⟨Ao281, co281, eo281⟩ := Kd.R_slice HO_26.out; subst eo281
                                                          go_wp2_with (first | (go_at_call 25; (with_reducible refine (slices_Equal_int_int.calls kj131 _ _ t330 _ _ x26_84 true _ ?side1 ?side2 ?side3 ?side4 A148.out).mono ?_); (case side1 => repeat (first | exact (Kd.R_reads' HO_10.out).2.2 | (with_reducible refine Kd.C_alloc ?_ _) | (with_reducible refine Kd.C_drewN ?_ _) | (with_reducible refine Kd.C_drew ?_))); (case side2 => exact (Kd.R_reads' HO_10.out).2.1); (case side3 => repeat (first | exact (Kd.R_reads' HO_26.out).2.2 | (with_reducible refine Kd.C_alloc ?_ _) | (with_reducible refine Kd.C_drewN ?_ _) | (with_reducible refine Kd.C_drew ?_))); (case side4 => exact (Kd.R_reads' HO_26.out).2.1); rintro e w' ⟨rfl, ⟨nd, rfl⟩⟩))
                                                          go_ret
                                                          exact ⟨by first | rfl | (simp [errW_none, errW_some] <;> rfl) | (simp [*, errW_none, errW_some] <;> rfl), by repeat (first | (with_reducible first | exact HB.out | apply below_alloc | apply pw_below_drewN | apply below_drew1 | refine below_set ?_ GE306.out | refine below_set ?_ GE327.out | refine below_set ?_ GE340.out | refine below_set ?_ GE347.out | refine below_set ?_ GE357.out | refine below_set ?_ GE358.out) | exact HB.out)⟩
                                                    · rw [if_neg c151] at H
                                                      have c151b0 : (t334 == x27_96) = false := beq_eq_false_iff_ne.mpr c151; have c151b1 : (t334 != x27_96) = true := bne_iff_ne.mpr c151
                                                      as_aux_lemma =>
                                                        obtain rfl := Option.some.inj H; obtain ⟨Ao282, co282, eo282⟩ := Kd.R_slice HO_10.out; subst eo282; obtain ⟨Ao283, co283, eo283⟩ := Kd.R_slice HO_26.out; subst eo283
                                                        go_wp2_with (first | (go_at_call 25; (with_reducible refine (slices_Equal_int_int.calls kj131 _ _ t330 _ _ x26_84 true _ ?side1 ?side2 ?side3 ?side4 A148.out).mono ?_); (case side1 => repeat (first | exact (Kd.R_reads' HO_10.out).2.2 | (with_reducible refine Kd.C_alloc ?_ _) | (with_reducible refine Kd.C_drewN ?_ _) | (with_reducible refine Kd.C_drew ?_))); (case side2 => exact (Kd.R_reads' HO_10.out).2.1); (case side3 => repeat (first | exact (Kd.R_reads' HO_26.out).2.2 | (with_reducible refine Kd.C_alloc ?_ _) | (with_reducible refine Kd.C_drewN ?_ _) | (with_reducible refine Kd.C_drew ?_))); (case side4 => exact (Kd.R_reads' HO_26.out).2.1); rintro e w' ⟨rfl, ⟨nd, rfl⟩⟩))
                                                        go_ret
                                                        exact ⟨by first | rfl | (simp [errW_none, errW_some] <;> rfl) | (simp [*, errW_none, errW_some] <;> rfl), by repeat (first | (with_reducible first | exact HB.out | apply below_alloc | apply pw_below_drewN | apply below_drew1 | refine below_set ?_ GE306.out | refine below_set ?_ GE327.out | refine below_set ?_ GE340.out | refine below_set ?_ GE347.out | refine below_set ?_ GE357.out | refine below_set ?_ GE358.out) | exact HB.out)⟩
                                                  · rw [if_neg c150] at H
                                                    have c150b0 : (t335 == x23_45) = false := beq_eq_false_iff_ne.mpr c150; have c150b1 : (t335 != x23_45) = true := bne_iff_ne.mpr c150
                                                    as_aux_lemma =>
                                                      obtain rfl := Option.some.inj H; obtain ⟨Ao284, co284, eo284⟩ := Kd.R_slice HO_10.out; subst eo284; obtain ⟨Ao285, co285, eo285⟩ := Kd.R_slice HO_26.out; subst eo285
                                                      go_wp2_with (first | (go_at_call 25; (with_reducible refine (slices_Equal_int_int.calls kj131 _ _ t330 _ _ x26_84 true _ ?side1 ?side2 ?side3 ?side4 A148.out).mono ?_); (case side1 => repeat (first | exact (Kd.R_reads' HO_10.out).2.2 | (with_reducible refine Kd.C_alloc ?_ _) | (with_reducible refine Kd.C_drewN ?_ _) | (with_reducible refine Kd.C_drew ?_))); (case side2 => exact (Kd.R_reads' HO_10.out).2.1); (case side3 => repeat (first | exact (Kd.R_reads' HO_26.out).2.2 | (with_reducible refine Kd.C_alloc ?_ _) | (with_reducible refine Kd.C_drewN ?_ _) | (with_reducible refine Kd.C_drew ?_))); (case side4 => exact (Kd.R_reads' HO_26.out).2.1); rintro e w' ⟨rfl, ⟨nd, rfl⟩⟩))
                                                      go_ret
                                                      exact ⟨by first | rfl | (simp [errW_none, errW_some] <;> rfl) | (simp [*, errW_none, errW_some] <;> rfl), by repeat (first | (with_reducible first | exact HB.out | apply below_alloc | apply pw_below_drewN | apply below_drew1 | refine below_set ?_ GE306.out | refine below_set ?_ GE327.out | refine below_set ?_ GE340.out | refine below_set ?_ GE347.out | refine below_set ?_ GE357.out | refine below_set ?_ GE358.out) | exact HB.out)⟩
                                                · replace c149 := Bool.eq_false_iff.mpr c149
                                                  subst c149; (have H1 : (some false) = some r := by rw [if_neg (show ¬ (false = true) by decide)] at H; exact H); clear H; have H := H1; clear H1
                                                  as_aux_lemma =>
                                                    obtain rfl := Option.some.inj H; obtain ⟨Ao286, co286, eo286⟩ := Kd.R_slice HO_10.out; subst eo286; obtain ⟨Ao287, co287, eo287⟩ := Kd.R_slice HO_26.out; subst eo287
                                                    go_wp2_with (first | (go_at_call 25; (with_reducible refine (slices_Equal_int_int.calls kj131 _ _ t330 _ _ x26_84 false _ ?side1 ?side2 ?side3 ?side4 A148.out).mono ?_); (case side1 => repeat (first | exact (Kd.R_reads' HO_10.out).2.2 | (with_reducible refine Kd.C_alloc ?_ _) | (with_reducible refine Kd.C_drewN ?_ _) | (with_reducible refine Kd.C_drew ?_))); (case side2 => exact (Kd.R_reads' HO_10.out).2.1); (case side3 => repeat (first | exact (Kd.R_reads' HO_26.out).2.2 | (with_reducible refine Kd.C_alloc ?_ _) | (with_reducible refine Kd.C_drewN ?_ _) | (with_reducible refine Kd.C_drew ?_))); (case side4 => exact (Kd.R_reads' HO_26.out).2.1); rintro e w' ⟨rfl, ⟨nd, rfl⟩⟩))
                                                    go_ret
                                                    exact ⟨by first | rfl | (simp [errW_none, errW_some] <;> rfl) | (simp [*, errW_none, errW_some] <;> rfl), by repeat (first | (with_reducible first | exact HB.out | apply below_alloc | apply pw_below_drewN | apply below_drew1 | refine below_set ?_ GE306.out | refine below_set ?_ GE327.out | refine below_set ?_ GE340.out | refine below_set ?_ GE347.out | refine below_set ?_ GE357.out | refine below_set ?_ GE358.out) | exact HB.out)⟩
                                              · rw [if_neg c147] at H
                                                have c147b0 : (t333 == x22_45) = false := beq_eq_false_iff_ne.mpr c147; have c147b1 : (t333 != x22_45) = true := bne_iff_ne.mpr c147
                                                as_aux_lemma =>
                                                  obtain rfl := Option.some.inj H
                                                  go_wp2
                                                  go_ret
                                                  exact ⟨by first | rfl | (simp [errW_none, errW_some] <;> rfl) | (simp [*, errW_none, errW_some] <;> rfl), by repeat (first | (with_reducible first | exact HB.out | apply below_alloc | apply pw_below_drewN | apply below_drew1 | refine below_set ?_ GE306.out | refine below_set ?_ GE327.out | refine below_set ?_ GE340.out | refine below_set ?_ GE347.out | refine below_set ?_ GE357.out | refine below_set ?_ GE358.out) | exact HB.out)⟩
        · rw [if_neg c40] at H
          have c40b0 : (t329 == x9_6) = false := beq_eq_false_iff_ne.mpr c40; have c40b1 : (t329 != x9_6) = true := bne_iff_ne.mpr c40
          as_aux_lemma =>
            obtain rfl := Option.some.inj H; have hnb288 := NB306_327.out; have hnc288 := NB327_306.out; have hcz289_0 : wc.cell? ⟨gb306, 0, none⟩ = some (.int .i64 t303) := (blk_cell BK306.out 0).trans rfl; have hcz289_1 : wc.cell? ⟨gb306, 1, none⟩ = some (.int .i64 t304) := (blk_cell BK306.out 1).trans rfl; have hfz289_0 := blk_frozen BK306.out 0; have hfz289_1 := blk_frozen BK306.out 1; obtain ⟨Ao290, co290, eo290⟩ := Kd.R_slice HO_4.out; subst eo290
            go_wp2_with (first | ((with_reducible refine gate_callee (f := 9) rfl ?_); refine goesL_ (some 59) rfl rfl Try.func9 (by kernel_rfl) rfl #[.slice Ao290 t300.length co290, .agg #[.int .i64 t303, .int .i64 t304]] rfl (by (try simp only [List.map_toArray, List.map_cons, List.map_nil]); first | done | rfl | (simp only [List.length_drop, List.length_take]; rfl)) ?_; (with_reducible refine (rate_CheckTimes.calls kj6 _ _ t300 t303 t304 t329 _ ?side1 ?side2 A39.out).mono ?_); (case side1 => repeat (first | exact (Kd.R_reads' HO_4.out).2.2 | (with_reducible refine Kd.C_alloc ?_ _) | (with_reducible refine Kd.C_drewN ?_ _) | (with_reducible refine Kd.C_drew ?_))); (case side2 => exact (Kd.R_reads' HO_4.out).2.1); rintro e w291 ⟨rfl, hb⟩; refine ⟨_, rfl, ?_⟩; have n0_ := Aside0.mk (Kd.R_below (Kd.R_up HO_4.out) hb); have n1_ := Aside0.mk (blk_below (g := gb306) (o := .cells #[.int .i64 t303, .int .i64 t304] 27 (0, 0)) (blk_up BK306.out) hb); have n2_ := Aside0.mk (blk_below (g := gb327) (o := .cells #[.int .i64 t310, .int .i64 t315] 27 (0, 0)) (blk_up BK327.out) hb); have n3_ := Aside0.mk (below_step (by repeat (first | (with_reducible first | exact HB.out | apply below_alloc | apply pw_below_drewN | apply below_drew1 | refine below_set ?_ GE306.out | refine below_set ?_ GE327.out) | exact HB.out)) hb); clear HO_4; clear BK306; clear BK327; clear HB; have HO_4 := n0_; have BK306 := n1_; have BK327 := n2_; have HB := n3_; clear n0_ n1_ n2_ n3_; (try clear hb); (try clear hb2); (try clear hk); (try clear hi)))
            go_ret
            exact ⟨by first | rfl | (simp [errW_none, errW_some] <;> rfl) | (simp [*, errW_none, errW_some] <;> rfl), by repeat (first | (with_reducible first | exact HB.out | apply below_alloc | apply pw_below_drewN | apply below_drew1 | refine below_set ?_ GE306.out | refine below_set ?_ GE327.out) | exact HB.out)⟩

/-- THE ONE PURE STATEMENT of pilelaw1_HoursCounted: yours. -/
def pilelaw1_HoursCounted.Pure : Prop := ∀ (l0 : List Int), l0.length ≤ maxLen → l0.length * 8 ≤ 140737488351232 → (∀ x ∈ l0, (Lit.int .i64 x).wf = true) → ∃ k, pilelaw1_HoursCounted.f k l0 = some true
theorem pilelaw1_HoursCounted.walk (P : pilelaw1_HoursCounted.Pure) (a0 : Option Addr) (len0 cap0 : Nat) (z0 : List Int) (w : World) (w0 : (a0 = none ∧ len0 = 0 ∧ cap0 = 0 ∧ z0 = []) ∨ ∃ x, a0 = some x ∧ len0 ≤ cap0 ∧ cap0 ≤ maxLen ∧ z0.length = cap0 ∧ (∀ i, i < z0.length → w.cell? (x.add i) = some (.int .i64 (z0.getD i 0))) ∧ ∀ n ∈ z0, (Lit.int .i64 n).wf = true) (y0 : len0 * 8 ≤ 140737488351232) :
    Calls Try.prog 3 #[.slice a0 len0 cap0] w fun e w' => e = .returned (.bool true) ∧ Below w.heap.size w w' := by
  obtain ⟨l0, rfl, hr0, hm0, hw0, hc0⟩ := ReadsInt.ofRowC w0; obtain ⟨k, h⟩ := P l0 hm0 y0 hw0
  refine (pilelaw1_HoursCounted.calls k _ _ l0 true w (Kd.C_of_reads (d := (0 : Int)) (h1 := fun _ => rfl) hr0) hc0 h).mono ?_
  rintro e w' ⟨rfl, hd⟩
  exact ⟨rfl, hd⟩

end Go.Proofs.Ytacgcamgfkjbiaa.PHoursCounted
