-- A program of this session wrote this text: a turned copy of the printer; functions proved by hand stand in it.
import Derived.Test.YtonnpocamipbiaaPPlacesApartx0
import Derived.Test.YtonnpocamipbiaaPPlacesApartx3
import Derived.Test.YtonnpocamipbiaaPPlacesApartx4
import Derived.Test.YtonnpocamipbiaaPPlacesApartx5
import Derived.Test.YtonnpocamipbiaaPPlacesApartx6
import Derived.Test.YtonnpocamipbiaaPPlacesApartx7
import Derived.Test.YtonnpocamipbiaaPPlacesApartx8
namespace Go.Proofs.Ytonnpocamipbiaa.PPlacesApart
open Go.RowKit Go.Proofs.YtonnpocamipbiaaW.PrintWords Go.Proofs.YtonnpocamipbiaaW.PrintLast Go.Proofs.YtonnpocamipbiaaW.PrintMore Go.Proofs.YtonnpocamipbiaaW.PrintOwn
attribute [local go_sem] max2_int min2_int max_two min_two max_three min_three max_four min_four   -- for this text's walks alone
set_option linter.unusedVariables false
set_option linter.unusedSimpArgs false

/-! ### pilelaw1_PlacesApart: function 5 -/
mutual
def pilelaw1_PlacesApart.j0 : Nat → Int → ByteArray → List ByteArray → Bool → List Int → Int → Int → Int → Int → Int → Option (Bool)
  | 0, _, _, _, _, _, _, _, _, _, _ => none
  | k + 1, x6, x7, x8, x45, x338000, x338001, x356000, x356001, x357000, x357001 => if x45 = true then (pilelaw1_PlacesApart.j1 k x6 x7 x8 x338000 x338001 x356000 x356001 x356000 x356001) else (pilelaw1_PlacesApart.j1 k x6 x7 x8 x338000 x338001 x356000 x356001 x357000 x357001)
def pilelaw1_PlacesApart.j1 : Nat → Int → ByteArray → List ByteArray → List Int → Int → Int → Int → Int → Int → Option (Bool)
  | 0, _, _, _, _, _, _, _, _, _ => none
  | k + 1, x6, x7, x8, x338000, x338001, x356000, x356001, x357000, x357001 => (pilemake_Stream_Range.f x338000 x338001 (-3000000) 3000000).bind fun bt359 => ((pilemake_Stream_Pick.f x338000 bt359.2 (([0, 216000, (-216000), 324000, 648000, 1296000, 1000000, bt359.1, 1296000001] : List Int))).bind fun bt364 => ((place_Cosine.f k bt364.1).bind fun bt366 => ((pileref1_SpanFault.f bt364.1 (-1296000000) 1296000000).bind fun t368 => (if bt366.2 = t368 then (if t368 = 0 then ((pileref1_CosineOf.f k bt364.1).bind fun t369 => (if bt366.1 = t369 then (pilelaw1_PlacesApart.j2 k x6 x7 x8 false x356000 x356001 x357000 x357001) else (pilelaw1_PlacesApart.j2 k x6 x7 x8 true x356000 x356001 x357000 x357001))) else (pilelaw1_PlacesApart.j2 k x6 x7 x8 (bt366.1 != 0) x356000 x356001 x357000 x357001)) else (pilelaw1_PlacesApart.j2 k x6 x7 x8 true x356000 x356001 x357000 x357001)))))
def pilelaw1_PlacesApart.j2 : Nat → Int → ByteArray → List ByteArray → Bool → Int → Int → Int → Int → Option (Bool)
  | 0, _, _, _, _, _, _, _, _ => none
  | k + 1, x6, x7, x8, x79, x356000, x356001, x357000, x357001 => if x79 = true then (some false) else ((pileref1_SiteFault.f x356000 x356001).bind fun t370 => ((pileref1_SiteFault.f x357000 x357001).bind fun t371 => ((api_Errno.f k (([t370, t371] : List Int))).bind fun t375 => ((place_Distance.f k x356000 x356001 x357000 x357001).bind fun bt376 => (pilelaw1_PlacesApart.j3 k x6 x7 x8 bt376.2 t375 bt376.1 x356000 x356001 x357000 x357001)))))
def pilelaw1_PlacesApart.j3 : Nat → Int → ByteArray → List ByteArray → Int → Int → Int → Int → Int → Int → Int → Option (Bool)
  | 0, _, _, _, _, _, _, _, _, _, _ => none
  | k + 1, x6, x7, x8, x11, x13, x14, x356000, x356001, x357000, x357001 => (place_Wind.f k x356000 x356001 x357000 x357001).bind fun bt378 => ((place_Way.f k x356000 x356001 x357000 x357001 x6).bind fun bt380 => ((pileref1_SpanFault.f x6 1 1000).bind fun t384 => ((api_Errno.f k (([x13, t384] : List Int))).bind fun t388 => (if x13 = 0 then ((pileref1_DistanceOf.f k x356000 x356001 x357000 x357001).bind fun t389 => ((pileref1_WindOf.f k x356000 x356001 x357000 x357001).bind fun t390 => ((pileref1_NoneFault.f (decide (t390 < 0))).bind fun t391 => (pilelaw1_PlacesApart.j4 k x6 x7 x8 x11 x13 x14 bt378.1 bt378.2 bt380.1 bt380.2 t389 (mx t390 0) t391 t388 ([] : List (S27)) x356000 x356001 x357000 x357001)))) else (pilelaw1_PlacesApart.j4 k x6 x7 x8 x11 x13 x14 bt378.1 bt378.2 bt380.1 bt380.2 0 0 x13 t388 ([] : List (S27)) x356000 x356001 x357000 x357001)))))
def pilelaw1_PlacesApart.j4 : Nat → Int → ByteArray → List ByteArray → Int → Int → Int → Int → Int → List (S27) → Int → Int → Int → Int → Int → List (S27) → Int → Int → Int → Int → Option (Bool)
  | 0, _, _, _, _, _, _, _, _, _, _, _, _, _, _, _, _, _, _, _ => none
  | k + 1, x6, x7, x8, x11, x13, x14, x15, x16, x17, x18, x19, x20, x21, x22, x23, x356000, x356001, x357000, x357001 => if x22 = 0 then ((pileref1_WayOf.f k x356000 x356001 x357000 x357001 x6).bind fun t392 => (pilelaw1_PlacesApart.j5 k x7 x8 x11 x13 x14 x15 x16 x17 x18 x19 x20 x21 x22 t392)) else (pilelaw1_PlacesApart.j5 k x7 x8 x11 x13 x14 x15 x16 x17 x18 x19 x20 x21 x22 x23)
def pilelaw1_PlacesApart.j5 : Nat → ByteArray → List ByteArray → Int → Int → Int → Int → Int → List (S27) → Int → Int → Int → Int → Int → List (S27) → Option (Bool)
  | 0, _, _, _, _, _, _, _, _, _, _, _, _, _, _ => none
  | k + 1, x7, x8, x11, x13, x14, x15, x16, x17, x18, x19, x20, x21, x22, x23 => if x11 = x13 then (if x14 = x19 then (if x16 = x21 then (if x15 = x20 then (if x18 = x22 then ((api_Site.f k x17 x23).bind fun t395 => (pilelaw1_PlacesApart.j6 k x7 x8 (!t395))) else (pilelaw1_PlacesApart.j6 k x7 x8 true)) else (pilelaw1_PlacesApart.j6 k x7 x8 true)) else (pilelaw1_PlacesApart.j6 k x7 x8 true)) else (pilelaw1_PlacesApart.j6 k x7 x8 true)) else (pilelaw1_PlacesApart.j6 k x7 x8 true)
def pilelaw1_PlacesApart.j6 : Nat → ByteArray → List ByteArray → Bool → Option (Bool)
  | 0, _, _, _ => none
  | k + 1, x7, x8, x158 => if x158 = true then (some false) else ((place_Farthest.f k x7 x8).bind fun bt396 => ((pileref1_LocatorFault.f x7).bind fun t399 => ((pileref1_NoneFault.f ((x8.length : Int) == 0)).bind fun t400 => ((pileref1_LocatorsFault.f k x8).bind fun t401 => ((api_Errno.f k (([t399, t400, t401] : List Int))).bind fun t405 => (pilelaw1_PlacesApart.j7 k x7 x8 bt396.1 bt396.2.1 bt396.2.2 t405 (t405 != 0)))))))
def pilelaw1_PlacesApart.j7 : Nat → ByteArray → List ByteArray → Int → Int → Int → Int → Bool → Option (Bool)
  | 0, _, _, _, _, _, _, _ => none
  | k + 1, x7, x8, x24, x25, x26, x27, x177 => if x177 = true then (if x26 = x27 then (if x24 = 0 then (if x25 = 0 then ((pilelaw1_placed.f k).bind fun t406 => (some t406)) else (some false)) else (some false)) else (some false)) else ((pileref1_FarthestOf.f k x7 x8).bind fun bt407 => (if x26 = 0 then (if x24 = bt407.1 then (if x25 = bt407.2 then ((pilelaw1_placed.f k).bind fun t409 => (some t409)) else (some false)) else (some false)) else (some false)))
end
def pilelaw1_PlacesApart.f (k : Nat) (l0 : List Int) : Option (Bool) := (pilemake_Stream_SiteOf.f l0 0).bind fun bt338 => ((pilemake_Stream_SiteOf.f l0 bt338.2.2).bind fun bt341 => ((pilemake_Stream_Pick.f l0 bt341.2.2 (([1, 2, 7, 0, 1001] : List Int))).bind fun bt347 => ((pilemake_Stream_LocatorText.f k l0 bt347.2).bind fun bt349 => ((pilemake_Stream_LocatorList.f k l0 bt349.2 5).bind fun bt351 => ((pilemake_Stream_Flip.f l0 bt351.2 6).bind fun bt357 => (pilelaw1_PlacesApart.j0 k bt347.1 bt349.1 bt351.1 bt357.1 l0 bt357.2 bt338.1 bt338.2.1 bt341.1 bt341.2.1))))))
theorem pilelaw1_PlacesApart.mono_l : ∀ k, (∀ y0 y1 y2 y3 y4 y5 y6 y7 y8 y9, LeO (pilelaw1_PlacesApart.j0 k y0 y1 y2 y3 y4 y5 y6 y7 y8 y9) (pilelaw1_PlacesApart.j0 (k + 1) y0 y1 y2 y3 y4 y5 y6 y7 y8 y9)) ∧ (∀ y0 y1 y2 y3 y4 y5 y6 y7 y8, LeO (pilelaw1_PlacesApart.j1 k y0 y1 y2 y3 y4 y5 y6 y7 y8) (pilelaw1_PlacesApart.j1 (k + 1) y0 y1 y2 y3 y4 y5 y6 y7 y8)) ∧ (∀ y0 y1 y2 y3 y4 y5 y6 y7, LeO (pilelaw1_PlacesApart.j2 k y0 y1 y2 y3 y4 y5 y6 y7) (pilelaw1_PlacesApart.j2 (k + 1) y0 y1 y2 y3 y4 y5 y6 y7)) ∧ (∀ y0 y1 y2 y3 y4 y5 y6 y7 y8 y9, LeO (pilelaw1_PlacesApart.j3 k y0 y1 y2 y3 y4 y5 y6 y7 y8 y9) (pilelaw1_PlacesApart.j3 (k + 1) y0 y1 y2 y3 y4 y5 y6 y7 y8 y9)) ∧ (∀ y0 y1 y2 y3 y4 y5 y6 y7 y8 y9 y10 y11 y12 y13 y14 y15 y16 y17 y18, LeO (pilelaw1_PlacesApart.j4 k y0 y1 y2 y3 y4 y5 y6 y7 y8 y9 y10 y11 y12 y13 y14 y15 y16 y17 y18) (pilelaw1_PlacesApart.j4 (k + 1) y0 y1 y2 y3 y4 y5 y6 y7 y8 y9 y10 y11 y12 y13 y14 y15 y16 y17 y18)) ∧ (∀ y0 y1 y2 y3 y4 y5 y6 y7 y8 y9 y10 y11 y12 y13, LeO (pilelaw1_PlacesApart.j5 k y0 y1 y2 y3 y4 y5 y6 y7 y8 y9 y10 y11 y12 y13) (pilelaw1_PlacesApart.j5 (k + 1) y0 y1 y2 y3 y4 y5 y6 y7 y8 y9 y10 y11 y12 y13)) ∧ (∀ y0 y1 y2, LeO (pilelaw1_PlacesApart.j6 k y0 y1 y2) (pilelaw1_PlacesApart.j6 (k + 1) y0 y1 y2)) ∧ (∀ y0 y1 y2 y3 y4 y5 y6, LeO (pilelaw1_PlacesApart.j7 k y0 y1 y2 y3 y4 y5 y6) (pilelaw1_PlacesApart.j7 (k + 1) y0 y1 y2 y3 y4 y5 y6))
  | 0 => ⟨fun _ _ _ _ _ _ _ _ _ _ r h => by simp [pilelaw1_PlacesApart.j0] at h, fun _ _ _ _ _ _ _ _ _ r h => by simp [pilelaw1_PlacesApart.j1] at h, fun _ _ _ _ _ _ _ _ r h => by simp [pilelaw1_PlacesApart.j2] at h, fun _ _ _ _ _ _ _ _ _ _ r h => by simp [pilelaw1_PlacesApart.j3] at h, fun _ _ _ _ _ _ _ _ _ _ _ _ _ _ _ _ _ _ _ r h => by simp [pilelaw1_PlacesApart.j4] at h, fun _ _ _ _ _ _ _ _ _ _ _ _ _ _ r h => by simp [pilelaw1_PlacesApart.j5] at h, fun _ _ _ r h => by simp [pilelaw1_PlacesApart.j6] at h, fun _ _ _ _ _ _ _ r h => by simp [pilelaw1_PlacesApart.j7] at h⟩
  | k + 1 => by
    obtain ⟨ih0, ih1, ih2, ih3, ih4, ih5, ih6, ih7⟩ := pilelaw1_PlacesApart.mono_l k
    refine ⟨?_, ?_, ?_, ?_, ?_, ?_, ?_, ?_⟩
    · intro y0 y1 y2 y3 y4 y5 y6 y7 y8 y9
      unfold pilelaw1_PlacesApart.j0
      repeat' first | (with_reducible apply ih0) | (with_reducible apply ih1) | (with_reducible exact LeO.refl _) | (with_reducible exact LeO.none _) | (with_reducible refine LeO.ite ?_ ?_) | (with_reducible refine LeO.bind ?_ (fun _ => ?_)) | apply ih0 | apply ih1 | exact LeO.none _ | refine LeO.ite ?_ ?_ | refine LeO.bind ?_ (fun _ => ?_)
    · intro y0 y1 y2 y3 y4 y5 y6 y7 y8
      unfold pilelaw1_PlacesApart.j1
      repeat' first | (with_reducible apply ih1) | (with_reducible apply ih2) | (with_reducible apply pileref1_CosineOf.mono) | (with_reducible apply place_Cosine.mono) | (with_reducible exact LeO.refl _) | (with_reducible exact LeO.none _) | (with_reducible refine LeO.ite ?_ ?_) | (with_reducible refine LeO.bind ?_ (fun _ => ?_)) | apply ih1 | apply ih2 | apply pileref1_CosineOf.mono | apply place_Cosine.mono | exact LeO.none _ | refine LeO.ite ?_ ?_ | refine LeO.bind ?_ (fun _ => ?_)
    · intro y0 y1 y2 y3 y4 y5 y6 y7
      unfold pilelaw1_PlacesApart.j2
      repeat' first | (with_reducible apply ih2) | (with_reducible apply ih3) | (with_reducible apply api_Errno.mono) | (with_reducible apply place_Distance.mono) | (with_reducible exact LeO.refl _) | (with_reducible exact LeO.none _) | (with_reducible refine LeO.ite ?_ ?_) | (with_reducible refine LeO.bind ?_ (fun _ => ?_)) | apply ih2 | apply ih3 | apply api_Errno.mono | apply place_Distance.mono | exact LeO.none _ | refine LeO.ite ?_ ?_ | refine LeO.bind ?_ (fun _ => ?_)
    · intro y0 y1 y2 y3 y4 y5 y6 y7 y8 y9
      unfold pilelaw1_PlacesApart.j3
      repeat' first | (with_reducible apply ih3) | (with_reducible apply ih4) | (with_reducible apply api_Errno.mono) | (with_reducible apply pileref1_DistanceOf.mono) | (with_reducible apply pileref1_WindOf.mono) | (with_reducible apply place_Way.mono) | (with_reducible apply place_Wind.mono) | (with_reducible exact LeO.refl _) | (with_reducible exact LeO.none _) | (with_reducible refine LeO.ite ?_ ?_) | (with_reducible refine LeO.bind ?_ (fun _ => ?_)) | apply ih3 | apply ih4 | apply api_Errno.mono | apply pileref1_DistanceOf.mono | apply pileref1_WindOf.mono | apply place_Way.mono | apply place_Wind.mono | exact LeO.none _ | refine LeO.ite ?_ ?_ | refine LeO.bind ?_ (fun _ => ?_)
    · intro y0 y1 y2 y3 y4 y5 y6 y7 y8 y9 y10 y11 y12 y13 y14 y15 y16 y17 y18
      unfold pilelaw1_PlacesApart.j4
      repeat' first | (with_reducible apply ih4) | (with_reducible apply ih5) | (with_reducible apply pileref1_WayOf.mono) | (with_reducible exact LeO.refl _) | (with_reducible exact LeO.none _) | (with_reducible refine LeO.ite ?_ ?_) | (with_reducible refine LeO.bind ?_ (fun _ => ?_)) | apply ih4 | apply ih5 | apply pileref1_WayOf.mono | exact LeO.none _ | refine LeO.ite ?_ ?_ | refine LeO.bind ?_ (fun _ => ?_)
    · intro y0 y1 y2 y3 y4 y5 y6 y7 y8 y9 y10 y11 y12 y13
      unfold pilelaw1_PlacesApart.j5
      repeat' first | (with_reducible apply ih5) | (with_reducible apply ih6) | (with_reducible apply api_Site.mono) | (with_reducible exact LeO.refl _) | (with_reducible exact LeO.none _) | (with_reducible refine LeO.ite ?_ ?_) | (with_reducible refine LeO.bind ?_ (fun _ => ?_)) | apply ih5 | apply ih6 | apply api_Site.mono | exact LeO.none _ | refine LeO.ite ?_ ?_ | refine LeO.bind ?_ (fun _ => ?_)
    · intro y0 y1 y2
      unfold pilelaw1_PlacesApart.j6
      repeat' first | (with_reducible apply ih6) | (with_reducible apply ih7) | (with_reducible apply api_Errno.mono) | (with_reducible apply pileref1_LocatorsFault.mono) | (with_reducible apply place_Farthest.mono) | (with_reducible exact LeO.refl _) | (with_reducible exact LeO.none _) | (with_reducible refine LeO.ite ?_ ?_) | (with_reducible refine LeO.bind ?_ (fun _ => ?_)) | apply ih6 | apply ih7 | apply api_Errno.mono | apply pileref1_LocatorsFault.mono | apply place_Farthest.mono | exact LeO.none _ | refine LeO.ite ?_ ?_ | refine LeO.bind ?_ (fun _ => ?_)
    · intro y0 y1 y2 y3 y4 y5 y6
      unfold pilelaw1_PlacesApart.j7
      repeat' first | (with_reducible apply ih7) | (with_reducible apply pilelaw1_placed.mono) | (with_reducible apply pileref1_FarthestOf.mono) | (with_reducible exact LeO.refl _) | (with_reducible exact LeO.none _) | (with_reducible refine LeO.ite ?_ ?_) | (with_reducible refine LeO.bind ?_ (fun _ => ?_)) | apply ih7 | apply pilelaw1_placed.mono | apply pileref1_FarthestOf.mono | exact LeO.none _ | refine LeO.ite ?_ ?_ | refine LeO.bind ?_ (fun _ => ?_)
theorem pilelaw1_PlacesApart.mono : ∀ a0 k, LeO (pilelaw1_PlacesApart.f k a0) (pilelaw1_PlacesApart.f (k + 1) a0) := by
  intro a0 k
  obtain ⟨ih0, ih1, ih2, ih3, ih4, ih5, ih6, ih7⟩ := pilelaw1_PlacesApart.mono_l k
  unfold pilelaw1_PlacesApart.f
  repeat' first | (with_reducible apply ih0) | (with_reducible apply pilemake_Stream_LocatorList.mono) | (with_reducible apply pilemake_Stream_LocatorText.mono) | (with_reducible exact LeO.refl _) | (with_reducible exact LeO.none _) | (with_reducible refine LeO.ite ?_ ?_) | (with_reducible refine LeO.bind ?_ (fun _ => ?_)) | apply ih0 | apply pilemake_Stream_LocatorList.mono | apply pilemake_Stream_LocatorText.mono | exact LeO.none _ | refine LeO.ite ?_ ?_ | refine LeO.bind ?_ (fun _ => ?_)
set_option maxHeartbeats 8000000 in
set_option maxRecDepth 100000 in
theorem pilelaw1_PlacesApart.calls (k : Nat) (A0 : Option Addr) (c0 : Nat) (l0 : List Int) (r : Bool) (w : World) (hr0 : Kd.C (Kd.int .i64) w A0 l0.length l0) (hc0 : l0.length ≤ c0) (h : pilelaw1_PlacesApart.f k l0 = some r) :
    Calls Try.prog 5 #[.slice A0 l0.length c0] w fun e w' => e = .returned (.bool r) ∧ Below w.heap.size w w' := by
  have hu25 := Try.underlying25; have hu27 := Try.underlying27; have HR0 := Aside0.mk hr0; have HC0 := Aside0.mk hc0; clear hr0 hc0; have HB := Aside0.mk (Below.refl w.heap.size w); (have H : ((pilemake_Stream_SiteOf.f l0 0).bind fun bt338 => ((pilemake_Stream_SiteOf.f l0 bt338.2.2).bind fun bt341 => ((pilemake_Stream_Pick.f l0 bt341.2.2 (([1, 2, 7, 0, 1001] : List Int))).bind fun bt347 => ((pilemake_Stream_LocatorText.f k l0 bt347.2).bind fun bt349 => ((pilemake_Stream_LocatorList.f k l0 bt349.2 5).bind fun bt351 => ((pilemake_Stream_Flip.f l0 bt351.2 6).bind fun bt357 => (pilelaw1_PlacesApart.j0 k bt347.1 bt349.1 bt351.1 bt357.1 l0 bt357.2 bt338.1 bt338.2.1 bt341.1 bt341.2.1))))))) = some r := h); clear h; replace H := Option.bind_eq_some_iff.mp H; obtain ⟨⟨t338, t339, t340⟩, A20, H⟩ := H; (replace H : ((pilemake_Stream_SiteOf.f l0 t340).bind fun bt341 => ((pilemake_Stream_Pick.f l0 bt341.2.2 (([1, 2, 7, 0, 1001] : List Int))).bind fun bt347 => ((pilemake_Stream_LocatorText.f k l0 bt347.2).bind fun bt349 => ((pilemake_Stream_LocatorList.f k l0 bt349.2 5).bind fun bt351 => ((pilemake_Stream_Flip.f l0 bt351.2 6).bind fun bt357 => (pilelaw1_PlacesApart.j0 k bt347.1 bt349.1 bt351.1 bt357.1 l0 bt357.2 t338 t339 bt341.1 bt341.2.1)))))) = some r := H); have A2 := Aside0.mk A20; clear A20; replace H := Option.bind_eq_some_iff.mp H; obtain ⟨⟨t341, t342, t343⟩, A30, H⟩ := H; (replace H : ((pilemake_Stream_Pick.f l0 t343 (([1, 2, 7, 0, 1001] : List Int))).bind fun bt347 => ((pilemake_Stream_LocatorText.f k l0 bt347.2).bind fun bt349 => ((pilemake_Stream_LocatorList.f k l0 bt349.2 5).bind fun bt351 => ((pilemake_Stream_Flip.f l0 bt351.2 6).bind fun bt357 => (pilelaw1_PlacesApart.j0 k bt347.1 bt349.1 bt351.1 bt357.1 l0 bt357.2 t338 t339 t341 t342))))) = some r := H); have A3 := Aside0.mk A30; clear A30; obtain ⟨y344, hy344⟩ : ∃ y_ : List Int, y_ = (([1, 2, 7, 0, 1001] : List Int)) := ⟨_, rfl⟩; (replace H : ((pilemake_Stream_Pick.f l0 t343 y344).bind fun bt347 => ((pilemake_Stream_LocatorText.f k l0 bt347.2).bind fun bt349 => ((pilemake_Stream_LocatorList.f k l0 bt349.2 5).bind fun bt351 => ((pilemake_Stream_Flip.f l0 bt351.2 6).bind fun bt357 => (pilelaw1_PlacesApart.j0 k bt347.1 bt349.1 bt351.1 bt357.1 l0 bt357.2 t338 t339 t341 t342))))) = some r := by first | (rw [hy344]; with_reducible exact H) | (have H2_ := (Option.bind_some _ _).symm.trans H; rw [hy344]; with_reducible exact H2_) | (have H2_ := (Option.bind_some _ _).symm.trans H; with_reducible exact H2_) | with_reducible exact H | (rw [hy344]; exact H) | exact H); have Ny344 := Aside0.mk hy344; clear hy344; replace H := Option.bind_eq_some_iff.mp H; obtain ⟨⟨t347, t348⟩, A40, H⟩ := H; (replace H : ((pilemake_Stream_LocatorText.f k l0 t348).bind fun bt349 => ((pilemake_Stream_LocatorList.f k l0 bt349.2 5).bind fun bt351 => ((pilemake_Stream_Flip.f l0 bt351.2 6).bind fun bt357 => (pilelaw1_PlacesApart.j0 k t347 bt349.1 bt351.1 bt357.1 l0 bt357.2 t338 t339 t341 t342)))) = some r := H); have A4 := Aside0.mk A40; clear A40; replace H := Option.bind_eq_some_iff.mp H; obtain ⟨⟨t349, t350⟩, A50, H⟩ := H; (replace H : ((pilemake_Stream_LocatorList.f k l0 t350 5).bind fun bt351 => ((pilemake_Stream_Flip.f l0 bt351.2 6).bind fun bt357 => (pilelaw1_PlacesApart.j0 k t347 t349 bt351.1 bt357.1 l0 bt357.2 t338 t339 t341 t342))) = some r := H); have A5 := Aside0.mk A50; clear A50; replace H := Option.bind_eq_some_iff.mp H; obtain ⟨⟨t351, t354⟩, A60, H⟩ := H; (replace H : ((pilemake_Stream_Flip.f l0 t354 6).bind fun bt357 => (pilelaw1_PlacesApart.j0 k t347 t349 t351 bt357.1 l0 bt357.2 t338 t339 t341 t342)) = some r := H); have A6 := Aside0.mk A60; clear A60; have HC7 := Aside0.mk H; clear H
  go_enter Try.func5, Try.ntmps5
  go_upto_region 3 with (first | ((with_reducible refine gate_dst (N := 32) rfl ?_); refine box_event ?hg (N := 32) ?hd (cs := #[.slice A0 l0.length c0, .int .i64 0]) (t := 25) ?hr ?_; (case hd => rfl); (case hg => rfl); (case hr => first | (go_simp; done) | (go_simp; rfl)); intro gb337 hg w8 hbox hb; have n0_ := Aside0.mk (below_step (by repeat (first | (with_reducible first | exact HB.out | apply below_alloc | apply pw_below_drewN | apply below_drew1) | exact HB.out)) hb); have n1_ := Aside0.mk ((⟨_, _, hbox, (by rw [hg]; exact (below_size (by repeat (first | (with_reducible first | exact HB.out | apply below_alloc | apply pw_below_drewN | apply below_drew1) | exact HB.out))) : w.heap.size ≤ gb337), HR0.out⟩ : IsS25 w w8 gb337 l0 0)); clear HB; have HB := n0_; have HI337 := n1_; clear n0_ n1_; clear hb hbox hg) | ((with_reducible refine gate_callee (f := 6) rfl ?_); refine goesL_ (some 34) rfl rfl Try.func6 (by kernel_rfl) rfl #[.pointer (some ⟨gb337, 0, none⟩)] rfl (by (try simp only [List.map_toArray, List.map_cons, List.map_nil]); first | done | rfl | (simp only [List.length_drop, List.length_take]; rfl)) ?_; (with_reducible refine (pilemake_Stream_SiteOf.calls gb337 l0 0 t338 t339 t340 w _ ?side1 ?side2 A2.out).mono ?_); (case side1 => repeat (first | (with_reducible first | exact HI337.out | apply IsS25.alloc | apply IsS25.drewN | apply IsS25.drew | apply IsS25.set_1) | exact HI337.out)); (case side2 => repeat (first | (with_reducible first | exact HB.out | apply below_alloc | apply pw_below_drewN | apply below_drew1 | refine below_set ?_ (IsS25.ge HI337.out)) | exact HB.out)); rintro e w9 ⟨rfl, hi, hb, hk⟩; refine ⟨_, rfl, ?_⟩; have n0_ := Aside0.mk (hb); have n1_ := Aside0.mk (hi); clear HB; clear HI337; have HB := n0_; have HI337 := n1_; clear n0_ n1_; (try clear hb); (try clear hb2); (try clear hk); (try clear hi)) | ((with_reducible refine gate_callee (f := 6) rfl ?_); refine goesL_ (some 36) rfl rfl Try.func6 (by kernel_rfl) rfl #[.pointer (some ⟨gb337, 0, none⟩)] rfl (by (try simp only [List.map_toArray, List.map_cons, List.map_nil]); first | done | rfl | (simp only [List.length_drop, List.length_take]; rfl)) ?_; (with_reducible refine (pilemake_Stream_SiteOf.calls gb337 l0 t340 t341 t342 t343 w _ ?side1 ?side2 A3.out).mono ?_); (case side1 => repeat (first | (with_reducible first | exact HI337.out | apply IsS25.alloc | apply IsS25.drewN | apply IsS25.drew | apply IsS25.set_1) | exact HI337.out)); (case side2 => repeat (first | (with_reducible first | exact HB.out | apply below_alloc | apply pw_below_drewN | apply below_drew1 | refine below_set ?_ (IsS25.ge HI337.out)) | exact HB.out)); rintro e w10 ⟨rfl, hi, hb, hk⟩; refine ⟨_, rfl, ?_⟩; have n0_ := Aside0.mk (hb); have n1_ := Aside0.mk (hi); clear HB; clear HI337; have HB := n0_; have HI337 := n1_; clear n0_ n1_; (try clear hb); (try clear hb2); (try clear hk); (try clear hi)) | ((with_reducible refine gate_dst (N := 38) rfl ?_); refine Kd.R_lit (Kd.int .i64) _ 3 ?hg (N := 38) ?hd (xs := ([1, 2, 7, 0, 1001] : List Int)) (inner := [.int .i64 1, .int .i64 2, .int .i64 7, .int .i64 0, .int .i64 1001]) (ok := fun _ => True) (okp := fun _ => True) ?hr ?hp (fun _ hk => hk) trivial (Below.refl _ _) (Nat.le_refl _) (by simp) ?_; (case hd => rfl); (case hg => rfl); (case hr => first | (go_simp; done) | (go_simp; rfl)); (case hp => exact (Reps.one (show Kd.M (Kd.int .i64) _ _ _ 1 [.int .i64 1] from rfl) (Reps.one (show Kd.M (Kd.int .i64) _ _ _ 2 [.int .i64 2] from rfl) (Reps.one (show Kd.M (Kd.int .i64) _ _ _ 7 [.int .i64 7] from rfl) (Reps.one (show Kd.M (Kd.int .i64) _ _ _ 0 [.int .i64 0] from rfl) (Reps.one (show Kd.M (Kd.int .i64) _ _ _ 1001 [.int .i64 1001] from rfl) (Reps.none _ _))))))); intro v345 w11 ho12 hb hg_ hnew_; clear hg_ hnew_; (first | rw [← Ny344.out] at ho12 | (simp only [Int.reduceToNat] at ho12; rw [← Ny344.out] at ho12)); have n0_ := Aside0.mk (Kd.R_lower ho12 (below_size (by repeat (first | (with_reducible first | exact HB.out | apply below_alloc | apply pw_below_drewN | apply below_drew1 | refine below_set ?_ (IsS25.ge HI337.out)) | exact HB.out)))); have n1_ := Aside0.mk (IsS25.below (by repeat (first | (with_reducible first | exact HI337.out | apply IsS25.alloc | apply IsS25.drewN | apply IsS25.drew | apply IsS25.set_1) | exact HI337.out)) hb); have n2_ := Aside0.mk (below_step (by repeat (first | (with_reducible first | exact HB.out | apply below_alloc | apply pw_below_drewN | apply below_drew1 | refine below_set ?_ (IsS25.ge HI337.out)) | exact HB.out)) hb); clear HI337; clear HB; have HO346 := n0_; have HI337 := n1_; have HB := n2_; clear n0_ n1_ n2_; clear hb ho12; obtain ⟨Ao13, co13, eo13⟩ := Kd.R_slice HO346.out; subst eo13) | ((with_reducible refine gate_callee (f := 8) rfl ?_); refine goesL_ (some 39) rfl rfl Try.func8 (by kernel_rfl) rfl #[.pointer (some ⟨gb337, 0, none⟩), .slice Ao13 y344.length co13] rfl (by (try simp only [List.map_toArray, List.map_cons, List.map_nil]); first | done | rfl | (simp only [List.length_drop, List.length_take]; rfl)) ?_; (with_reducible refine (pilemake_Stream_Pick.calls gb337 l0 t343 _ _ y344 t347 t348 w _ ?side1 ?side2 ?side3 ?side4 ?side5 A4.out).mono ?_); (case side1 => repeat (first | (with_reducible first | exact HI337.out | apply IsS25.alloc | apply IsS25.drewN | apply IsS25.drew | apply IsS25.set_1) | exact HI337.out)); (case side2 => repeat (first | (with_reducible first | exact HB.out | apply below_alloc | apply pw_below_drewN | apply below_drew1 | refine below_set ?_ (IsS25.ge HI337.out)) | exact HB.out)); (case side3 => repeat (first | exact (Kd.R_reads' HO346.out).2.2 | (with_reducible refine Kd.C_alloc ?_ _) | (with_reducible refine Kd.C_drewN ?_ _) | (with_reducible refine Kd.C_drew ?_))); (case side4 => exact (Kd.R_reads' HO346.out).2.1); (case side5 => exact far_slice (IsS25.own_ne HI337.out HO346.out (by decide))); rintro e w14 ⟨rfl, hi, hb, hk⟩; refine ⟨_, rfl, ?_⟩; have n0_ := Aside0.mk (Kd.R_mono (Kd.R_keep (IsS25.apart (show IsS25 w _ gb337 l0 t343 from by repeat (first | (with_reducible first | exact HI337.out | apply IsS25.alloc | apply IsS25.drewN | apply IsS25.drew | apply IsS25.set_1) | exact HI337.out)) (Kd.R_up HO346.out) (by decide)) hk (fun _ h => h.2)) (fun _ h => h.1)); have n1_ := Aside0.mk (hb); have n2_ := Aside0.mk (hi); clear HO346; clear HB; clear HI337; have HO346 := n0_; have HB := n1_; have HI337 := n2_; clear n0_ n1_ n2_; (try clear hb); (try clear hb2); (try clear hk); (try clear hi)) | ((with_reducible refine gate_callee (f := 30) rfl ?_); refine goesL_ (some 41) rfl rfl Try.func30 (by kernel_rfl) rfl #[.pointer (some ⟨gb337, 0, none⟩)] rfl (by (try simp only [List.map_toArray, List.map_cons, List.map_nil]); first | done | rfl | (simp only [List.length_drop, List.length_take]; rfl)) ?_; (with_reducible refine (pilemake_Stream_LocatorText.calls k gb337 l0 t348 t349 t350 w _ ?side1 ?side2 A5.out).mono ?_); (case side1 => repeat (first | (with_reducible first | exact HI337.out | apply IsS25.alloc | apply IsS25.drewN | apply IsS25.drew | apply IsS25.set_1) | exact HI337.out)); (case side2 => repeat (first | (with_reducible first | exact HB.out | apply below_alloc | apply pw_below_drewN | apply below_drew1 | refine below_set ?_ (IsS25.ge HI337.out)) | exact HB.out)); rintro e w15 ⟨rfl, hi, hb, hk⟩; refine ⟨_, rfl, ?_⟩; have n0_ := Aside0.mk (Kd.R_mono (Kd.R_keep (IsS25.apart (show IsS25 w _ gb337 l0 t348 from by repeat (first | (with_reducible first | exact HI337.out | apply IsS25.alloc | apply IsS25.drewN | apply IsS25.drew | apply IsS25.set_1) | exact HI337.out)) (Kd.R_up HO346.out) (by decide)) hk (fun _ h => h.2)) (fun _ h => h.1)); have n1_ := Aside0.mk (hb); have n2_ := Aside0.mk (hi); clear HO346; clear HB; clear HI337; have HO346 := n0_; have HB := n1_; have HI337 := n2_; clear n0_ n1_ n2_; (try clear hb); (try clear hb2); (try clear hk); (try clear hi)) | ((with_reducible refine gate_callee (f := 31) rfl ?_); refine goesL_ (some 43) rfl rfl Try.func31 (by kernel_rfl) rfl #[.pointer (some ⟨gb337, 0, none⟩), .int .i64 5] rfl (by (try simp only [List.map_toArray, List.map_cons, List.map_nil]); first | done | rfl | (simp only [List.length_drop, List.length_take]; rfl)) ?_; (with_reducible refine (pilemake_Stream_LocatorList.calls k gb337 l0 t350 5 t351 t354 w _ ?side1 ?side2 A6.out).mono ?_); (case side1 => repeat (first | (with_reducible first | exact HI337.out | apply IsS25.alloc | apply IsS25.drewN | apply IsS25.drew | apply IsS25.set_1) | exact HI337.out)); (case side2 => repeat (first | (with_reducible first | exact HB.out | apply below_alloc | apply pw_below_drewN | apply below_drew1 | refine below_set ?_ (IsS25.ge HI337.out)) | exact HB.out)); rintro e w16 ⟨v352, rfl, ho0, hi, hb, hk⟩; refine ⟨_, rfl, ?_⟩; have n0_ := Aside0.mk (Kd.R_mono (Kd.R_keep (IsS25.apart (show IsS25 w _ gb337 l0 t350 from by repeat (first | (with_reducible first | exact HI337.out | apply IsS25.alloc | apply IsS25.drewN | apply IsS25.drew | apply IsS25.set_1) | exact HI337.out)) (Kd.R_up HO346.out) (by decide)) hk (fun _ h => h.2)) (fun _ h => h.1)); have n1_ := Aside0.mk (Kd.R_lower ho0 (below_size (by repeat (first | (with_reducible first | exact HB.out | apply below_alloc | apply pw_below_drewN | apply below_drew1 | refine below_set ?_ (IsS25.ge HI337.out)) | exact HB.out)))); have n2_ := Aside0.mk (hb); have n3_ := Aside0.mk (hi); clear HO346; clear HB; clear HI337; have HO346 := n0_; have HO353 := n1_; have HB := n2_; have HI337 := n3_; clear n0_ n1_ n2_ n3_; (try clear hb); (try clear hb2); (try clear hk); (try clear hi); (try clear ho0)) | ((with_reducible refine gate_dst (N := 4) rfl ?_); refine box_event ?hg (N := 4) ?hd (cs := #[.int .i64 0, .int .i64 0]) (t := 27) ?hr ?_; (case hd => rfl); (case hg => rfl); (case hr => first | (go_simp; done) | (go_simp; rfl)); intro gb355 hg w17 hbox hb; have n0_ := Aside0.mk (Kd.R_below (Kd.R_up HO346.out) hb); have n1_ := Aside0.mk (Kd.R_below (Kd.R_up HO353.out) hb); have n2_ := Aside0.mk (IsS25.below (by repeat (first | (with_reducible first | exact HI337.out | apply IsS25.alloc | apply IsS25.drewN | apply IsS25.drew | apply IsS25.set_1) | exact HI337.out)) hb); have n3_ := Aside0.mk (below_step (by repeat (first | (with_reducible first | exact HB.out | apply below_alloc | apply pw_below_drewN | apply below_drew1 | refine below_set ?_ (IsS25.ge HI337.out)) | exact HB.out)) hb); have n4_ := Aside0.mk (hbox); have n5_ := Aside0.mk ((by rw [hg]; exact (below_size (by repeat (first | (with_reducible first | exact HB.out | apply below_alloc | apply pw_below_drewN | apply below_drew1 | refine below_set ?_ (IsS25.ge HI337.out)) | exact HB.out))) : w.heap.size ≤ gb355)); have n6_ := Aside0.mk ((by rw [hg]; exact (below_size (by repeat (first | (with_reducible first | exact HB.out | apply below_alloc | apply pw_below_drewN | apply below_drew1 | refine below_set ?_ (IsS25.ge HI337.out)) | exact HB.out))) : w.heap.size ≤ gb355)); have n7_ := Aside0.mk ((by rw [hg]; exact Nat.ne_of_lt (IsS25.lt (show IsS25 w _ gb337 l0 t354 from by repeat (first | (with_reducible first | exact HI337.out | apply IsS25.alloc | apply IsS25.drewN | apply IsS25.drew | apply IsS25.set_1) | exact HI337.out))) : gb337 ≠ gb355)); have n8_ := Aside0.mk ((by rw [hg]; exact Nat.ne_of_gt (IsS25.lt (show IsS25 w _ gb337 l0 t354 from by repeat (first | (with_reducible first | exact HI337.out | apply IsS25.alloc | apply IsS25.drewN | apply IsS25.drew | apply IsS25.set_1) | exact HI337.out))) : gb355 ≠ gb337)); clear HO346; clear HO353; clear HI337; clear HB; have HO346 := n0_; have HO353 := n1_; have HI337 := n2_; have HB := n3_; have BK355 := n4_; have GW355 := n5_; have GE355 := n6_; have NB337_355 := n7_; have NB355_337 := n8_; clear n0_ n1_ n2_ n3_ n4_ n5_ n6_ n7_ n8_; clear hb hbox hg) | ((with_reducible refine gate_dst (N := 5) rfl ?_); refine box_event ?hg (N := 5) ?hd (cs := #[.int .i64 0, .int .i64 0]) (t := 27) ?hr ?_; (case hd => rfl); (case hg => rfl); (case hr => first | (go_simp; done) | (go_simp; rfl)); intro gb356 hg w18 hbox hb; have n0_ := Aside0.mk (Kd.R_below (Kd.R_up HO346.out) hb); have n1_ := Aside0.mk (Kd.R_below (Kd.R_up HO353.out) hb); have n2_ := Aside0.mk (IsS25.below (by repeat (first | (with_reducible first | exact HI337.out | apply IsS25.alloc | apply IsS25.drewN | apply IsS25.drew | apply IsS25.set_1 | refine IsS25.far ?_ NB337_355.out _) | exact HI337.out)) hb); have n3_ := Aside0.mk (blk_below (g := gb355) (o := .cells #[.int .i64 0, .int .i64 0] 27 (0, 0)) (blk_up BK355.out) hb); have n4_ := Aside0.mk (below_step (by repeat (first | (with_reducible first | exact HB.out | apply below_alloc | apply pw_below_drewN | apply below_drew1 | refine below_set ?_ (IsS25.ge HI337.out) | refine below_set ?_ GE355.out) | exact HB.out)) hb); have n5_ := Aside0.mk (hbox); have n6_ := Aside0.mk ((by rw [hg]; exact (below_size (by repeat (first | (with_reducible first | exact HB.out | apply below_alloc | apply pw_below_drewN | apply below_drew1 | refine below_set ?_ (IsS25.ge HI337.out) | refine below_set ?_ GE355.out) | exact HB.out))) : w.heap.size ≤ gb356)); have n7_ := Aside0.mk ((by rw [hg]; exact (below_size (by repeat (first | (with_reducible first | exact HB.out | apply below_alloc | apply pw_below_drewN | apply below_drew1 | refine below_set ?_ (IsS25.ge HI337.out) | refine below_set ?_ GE355.out) | exact HB.out))) : w.heap.size ≤ gb356)); have n8_ := Aside0.mk ((by rw [hg]; exact Nat.ne_of_lt (blk_lt (g := gb355) (o := .cells #[.int .i64 0, .int .i64 0] 27 (0, 0)) (blk_up BK355.out)) : gb355 ≠ gb356)); have n9_ := Aside0.mk ((by rw [hg]; exact Nat.ne_of_gt (blk_lt (g := gb355) (o := .cells #[.int .i64 0, .int .i64 0] 27 (0, 0)) (blk_up BK355.out)) : gb356 ≠ gb355)); have n10_ := Aside0.mk ((by rw [hg]; exact Nat.ne_of_lt (IsS25.lt (show IsS25 w _ gb337 l0 t354 from by repeat (first | (with_reducible first | exact HI337.out | apply IsS25.alloc | apply IsS25.drewN | apply IsS25.drew | apply IsS25.set_1 | refine IsS25.far ?_ NB337_355.out _) | exact HI337.out))) : gb337 ≠ gb356)); have n11_ := Aside0.mk ((by rw [hg]; exact Nat.ne_of_gt (IsS25.lt (show IsS25 w _ gb337 l0 t354 from by repeat (first | (with_reducible first | exact HI337.out | apply IsS25.alloc | apply IsS25.drewN | apply IsS25.drew | apply IsS25.set_1 | refine IsS25.far ?_ NB337_355.out _) | exact HI337.out))) : gb356 ≠ gb337)); clear HO346; clear HO353; clear HI337; clear BK355; clear HB; have HO346 := n0_; have HO353 := n1_; have HI337 := n2_; have BK355 := n3_; have HB := n4_; have BK356 := n5_; have GW356 := n6_; have GE356 := n7_; have NB355_356 := n8_; have NB356_355 := n9_; have NB337_356 := n10_; have NB356_337 := n11_; clear n0_ n1_ n2_ n3_ n4_ n5_ n6_ n7_ n8_ n9_ n10_ n11_; clear hb hbox hg; have hnb19 := NB355_356.out; have hnc19 := NB356_355.out; have hnb20 := NB355_337.out; have hnc20 := NB337_355.out; have hcz21_0 : w18.cell? ⟨gb355, 0, none⟩ = some (.int .i64 0) := (blk_cell BK355.out 0).trans rfl; have hcz21_1 : w18.cell? ⟨gb355, 1, none⟩ = some (.int .i64 0) := (blk_cell BK355.out 1).trans rfl; have hfz21_0 := blk_frozen BK355.out 0; have hfz21_1 := blk_frozen BK355.out 1; have hnb22 := NB356_337.out; have hnc22 := NB337_356.out; have hcz23_0 : w18.cell? ⟨gb356, 0, none⟩ = some (.int .i64 0) := (blk_cell BK356.out 0).trans rfl; have hcz23_1 : w18.cell? ⟨gb356, 1, none⟩ = some (.int .i64 0) := (blk_cell BK356.out 1).trans rfl; have hfz23_0 := blk_frozen BK356.out 0; have hfz23_1 := blk_frozen BK356.out 1))
  (try simp only [Act.put, List.setIfInBounds_toArray, List.set_cons_zero, List.set_cons_succ])
  go_cut [45] (fun v45 wc => ∃ (kq : Nat) (x45_6 : Bool) (x338001_6 : Int), v45 = .bool x45_6 ∧ Aside0 (pilelaw1_PlacesApart.j0 kq t347 t349 t351 x45_6 l0 x338001_6 t338 t339 t341 t342 = some r) ∧ Aside0 (kq ≤ k) ∧ Aside0 (Kd.R Kd.string 9 wc w.heap.size (fun _ => True) v352 t351) ∧ Aside0 (wc.heap[gb355]? = some (.cells #[.int .i64 t338, .int .i64 t339] 27 (0, 0))) ∧ Aside0 (wc.heap[gb356]? = some (.cells #[.int .i64 t341, .int .i64 t342] 27 (0, 0))) ∧ Aside0 (IsS25 w wc gb337 l0 x338001_6) ∧ Aside0 (Below w.heap.size w wc))
  case first =>
    have H := HC7.out; clear HC7; replace H := Option.bind_eq_some_iff.mp H; obtain ⟨⟨t357, t358⟩, A240, H⟩ := H; replace H : (pilelaw1_PlacesApart.j0 k t347 t349 t351 t357 l0 t358 t338 t339 t341 t342) = some r := H; have A24 := Aside0.mk A240; clear A240
    as_aux_lemma =>
      have H' := Aside0.mk H; clear H
      go_wp2_with (first | ((with_reducible refine gate_callee (f := 9) rfl ?_); refine goesL_ (some 45) rfl rfl Try.func9 (by kernel_rfl) rfl #[.pointer (some ⟨gb337, 0, none⟩), .int .i64 6] rfl (by (try simp only [List.map_toArray, List.map_cons, List.map_nil]); first | done | rfl | (simp only [List.length_drop, List.length_take]; rfl)) ?_; (with_reducible refine (pilemake_Stream_Flip.calls gb337 l0 t354 6 t357 t358 w _ ?side1 ?side2 A24.out).mono ?_); (case side1 => repeat (first | (with_reducible first | exact HI337.out | apply IsS25.alloc | apply IsS25.drewN | apply IsS25.drew | apply IsS25.set_1 | refine IsS25.far ?_ NB337_355.out _ | refine IsS25.far ?_ NB337_356.out _) | exact HI337.out)); (case side2 => repeat (first | (with_reducible first | exact HB.out | apply below_alloc | apply pw_below_drewN | apply below_drew1 | refine below_set ?_ (IsS25.ge HI337.out) | refine below_set ?_ GE355.out | refine below_set ?_ GE356.out) | exact HB.out)); rintro e w25 ⟨rfl, hi, hb, hk⟩; refine ⟨_, rfl, ?_⟩; have n0_ := Aside0.mk (Kd.R_mono (Kd.R_keep (IsS25.apart (show IsS25 w _ gb337 l0 t354 from by repeat (first | (with_reducible first | exact HI337.out | apply IsS25.alloc | apply IsS25.drewN | apply IsS25.drew | apply IsS25.set_1 | refine IsS25.far ?_ NB337_355.out _ | refine IsS25.far ?_ NB337_356.out _) | exact HI337.out)) (by (with_reducible repeat (first | apply Kd.R_alloc | apply Kd.R_drewN | apply Kd.R_drew)); exact (Kd.R_mono (Kd.R_mono (Kd.R_far (p := ⟨gb356, 1, none⟩) (Kd.R_far (p := ⟨gb356, 0, none⟩) (Kd.R_far (p := ⟨gb355, 1, none⟩) (Kd.R_far (p := ⟨gb355, 0, none⟩) (Kd.R_types (Kd.R_types HO353.out BK355.out (by decide)) BK356.out (by decide)) (fun _ hk => hk.1.2) (.int .i64 t338)) (fun _ hk => hk.1.2) (.int .i64 t339)) (fun _ hk => hk.2) (.int .i64 t341)) (fun _ hk => hk.2) (.int .i64 t342)) (fun _ h_ => h_.1)) (fun _ h_ => h_.1))) (by decide)) hk (fun _ h => h.2)) (fun _ h => h.1)); have n1_ := Aside0.mk (KeepBut.blk hk (g' := gb355) (o := .cells #[.int .i64 t338, .int .i64 t339] 27 (0, 0)) (by (with_reducible repeat (first | refine blk_drewN ?_ _ | refine blk_drew ?_ | refine blk_alloc ?_ _)); refine blk_far ?_ NB355_356.out _; (with_reducible repeat (first | refine blk_drewN ?_ _ | refine blk_drew ?_ | refine blk_alloc ?_ _)); refine blk_far ?_ NB355_356.out _; (with_reducible repeat (first | refine blk_drewN ?_ _ | refine blk_drew ?_ | refine blk_alloc ?_ _)); refine blk_put (cs := #[.int .i64 t338, .int .i64 0]) ?_ 1 _ rfl; (with_reducible repeat (first | refine blk_drewN ?_ _ | refine blk_drew ?_ | refine blk_alloc ?_ _)); refine blk_put (cs := #[.int .i64 0, .int .i64 0]) ?_ 0 _ rfl; (with_reducible repeat (first | refine blk_drewN ?_ _ | refine blk_drew ?_ | refine blk_alloc ?_ _)); exact BK355.out) NB355_337.out (by simp)); have n2_ := Aside0.mk (KeepBut.blk hk (g' := gb356) (o := .cells #[.int .i64 t341, .int .i64 t342] 27 (0, 0)) (by (with_reducible repeat (first | refine blk_drewN ?_ _ | refine blk_drew ?_ | refine blk_alloc ?_ _)); refine blk_put (cs := #[.int .i64 t341, .int .i64 0]) ?_ 1 _ rfl; (with_reducible repeat (first | refine blk_drewN ?_ _ | refine blk_drew ?_ | refine blk_alloc ?_ _)); refine blk_put (cs := #[.int .i64 0, .int .i64 0]) ?_ 0 _ rfl; (with_reducible repeat (first | refine blk_drewN ?_ _ | refine blk_drew ?_ | refine blk_alloc ?_ _)); refine blk_far ?_ NB356_355.out _; (with_reducible repeat (first | refine blk_drewN ?_ _ | refine blk_drew ?_ | refine blk_alloc ?_ _)); refine blk_far ?_ NB356_355.out _; (with_reducible repeat (first | refine blk_drewN ?_ _ | refine blk_drew ?_ | refine blk_alloc ?_ _)); exact BK356.out) NB356_337.out (by simp)); have n3_ := Aside0.mk (hb); have n4_ := Aside0.mk (hi); clear HO353; clear BK355; clear BK356; clear HB; clear HI337; have HO353 := n0_; have BK355 := n1_; have BK356 := n2_; have HB := n3_; have HI337 := n4_; clear n0_ n1_ n2_ n3_ n4_; (try clear hb); (try clear hb2); (try clear hk); (try clear hi)))
      go_meet
      case rel => exact ⟨_, (t357), (t358), (by first | rfl | (simp; done) | (simp [*]; done)), H', ⟨by first | omega | exact Nat.le_refl _⟩, ⟨by (with_reducible repeat (first | apply Kd.R_alloc | apply Kd.R_drewN | apply Kd.R_drew)); exact HO353.out⟩, ⟨by (with_reducible repeat (first | refine blk_drewN ?_ _ | refine blk_drew ?_ | refine blk_alloc ?_ _)); exact BK355.out⟩, ⟨by (with_reducible repeat (first | refine blk_drewN ?_ _ | refine blk_drew ?_ | refine blk_alloc ?_ _)); exact BK356.out⟩, ⟨by repeat (first | (with_reducible first | exact HI337.out | apply IsS25.alloc | apply IsS25.drewN | apply IsS25.drew | apply IsS25.set_1 | refine IsS25.far ?_ NB337_355.out _ | refine IsS25.far ?_ NB337_356.out _) | exact HI337.out)⟩, ⟨by repeat (first | (with_reducible first | exact HB.out | apply below_alloc | apply pw_below_drewN | apply below_drew1 | refine below_set ?_ (IsS25.ge HI337.out) | refine below_set ?_ GE355.out | refine below_set ?_ GE356.out) | exact HB.out)⟩⟩
  case rest =>
    clear HC7
    try clear c1
    try clear c2
    try clear p2
    try clear c3
    try clear c5
    try clear c6
    try clear c8
    try clear c9
    try clear c19
    try clear c20
    try clear c22
    try clear hcz21_0
    try clear hcz21_1
    try clear hcz23_0
    try clear hcz23_1
    try clear hfz21_0
    try clear hfz21_1
    try clear hfz23_0
    try clear hfz23_1
    obtain ⟨kq, x45_6, x338001_6, rfl, HA, HJ6, HO_8, BK355, BK356, HI337, HB⟩ := hcut
    cases kq with
    | zero => exact absurd HA.out (by simp [pilelaw1_PlacesApart.j0])
    | succ kj6 =>
      have H := HA.out; clear HA
      simp only [pilelaw1_PlacesApart.j0] at H
      have HC26 := Aside0.mk H; clear H
      go_upto_if 45 with (fail)
      go_cut [] (fun wc => ∃ (kq : Nat) (x357000_25 : Int) (x357001_25 : Int), Aside0 (pilelaw1_PlacesApart.j1 kq t347 t349 t351 l0 x338001_6 t338 t339 x357000_25 x357001_25 = some r) ∧ Aside0 (kq ≤ kj6) ∧ Aside0 (Kd.R Kd.string 9 wc w.heap.size (fun _ => True) v352 t351) ∧ Aside0 (wc.heap[gb355]? = some (.cells #[.int .i64 t338, .int .i64 t339] 27 (0, 0))) ∧ Aside0 (wc.heap[gb356]? = some (.cells #[.int .i64 x357000_25, .int .i64 x357001_25] 27 (0, 0))) ∧ Aside0 (IsS25 w wc gb337 l0 x338001_6) ∧ Aside0 (Below w.heap.size w wc))
      case first =>
        have H := HC26.out; clear HC26
        by_cases c27 : x45_6 = true
        · subst c27
          (have H1 : (pilelaw1_PlacesApart.j1 kj6 t347 t349 t351 l0 x338001_6 t338 t339 t338 t339) = some r := by rw [if_pos rfl] at H; exact H); clear H; have H := H1; clear H1
          as_aux_lemma =>
            have H' := Aside0.mk H; clear H; have hnb28 := NB355_356.out; have hnc28 := NB356_355.out; have hnb29 := NB355_337.out; have hnc29 := NB337_355.out; have hcz30_0 : wc.cell? ⟨gb355, 0, none⟩ = some (.int .i64 t338) := (blk_cell BK355.out 0).trans rfl; have hcz30_1 : wc.cell? ⟨gb355, 1, none⟩ = some (.int .i64 t339) := (blk_cell BK355.out 1).trans rfl; have hfz30_0 := blk_frozen BK355.out 0; have hfz30_1 := blk_frozen BK355.out 1; have hnb31 := NB356_337.out; have hnc31 := NB337_356.out; have hcz32_0 : wc.cell? ⟨gb356, 0, none⟩ = some (.int .i64 t341) := (blk_cell BK356.out 0).trans rfl; have hcz32_1 : wc.cell? ⟨gb356, 1, none⟩ = some (.int .i64 t342) := (blk_cell BK356.out 1).trans rfl; have hfz32_0 := blk_frozen BK356.out 0; have hfz32_1 := blk_frozen BK356.out 1
            go_wp2
            go_meet
            case rel => exact ⟨_, (t338), (t339), H', ⟨by have := HJ6.out; first | omega | exact Nat.le_refl _⟩, ⟨by (with_reducible repeat (first | apply Kd.R_alloc | apply Kd.R_drewN | apply Kd.R_drew)); exact Kd.R_mono (Kd.R_far (p := ⟨gb356, 1, none⟩) (Kd.R_far (p := ⟨gb356, 0, none⟩) (Kd.R_types HO_8.out BK356.out (by decide)) (fun _ hk => hk.2) (.int .i64 t338)) (fun _ hk => hk.2) (.int .i64 t339)) (fun _ hk => trivial)⟩, ⟨by (with_reducible repeat (first | refine blk_drewN ?_ _ | refine blk_drew ?_ | refine blk_alloc ?_ _)); refine blk_far ?_ NB355_356.out _; (with_reducible repeat (first | refine blk_drewN ?_ _ | refine blk_drew ?_ | refine blk_alloc ?_ _)); refine blk_far ?_ NB355_356.out _; (with_reducible repeat (first | refine blk_drewN ?_ _ | refine blk_drew ?_ | refine blk_alloc ?_ _)); exact BK355.out⟩, ⟨by (with_reducible repeat (first | refine blk_drewN ?_ _ | refine blk_drew ?_ | refine blk_alloc ?_ _)); refine blk_put (cs := #[.int .i64 t338, .int .i64 t342]) ?_ 1 _ rfl; (with_reducible repeat (first | refine blk_drewN ?_ _ | refine blk_drew ?_ | refine blk_alloc ?_ _)); refine blk_put (cs := #[.int .i64 t341, .int .i64 t342]) ?_ 0 _ rfl; (with_reducible repeat (first | refine blk_drewN ?_ _ | refine blk_drew ?_ | refine blk_alloc ?_ _)); exact BK356.out⟩, ⟨by repeat (first | (with_reducible first | exact HI337.out | apply IsS25.alloc | apply IsS25.drewN | apply IsS25.drew | apply IsS25.set_1 | refine IsS25.far ?_ NB337_355.out _ | refine IsS25.far ?_ NB337_356.out _) | exact HI337.out)⟩, ⟨by repeat (first | (with_reducible first | exact HB.out | apply below_alloc | apply pw_below_drewN | apply below_drew1 | refine below_set ?_ (IsS25.ge HI337.out) | refine below_set ?_ GE355.out | refine below_set ?_ GE356.out) | exact HB.out)⟩⟩
        · replace c27 := Bool.eq_false_iff.mpr c27
          subst c27; (have H1 : (pilelaw1_PlacesApart.j1 kj6 t347 t349 t351 l0 x338001_6 t338 t339 t341 t342) = some r := by rw [if_neg (show ¬ (false = true) by decide)] at H; exact H); clear H; have H := H1; clear H1
          as_aux_lemma =>
            have H' := Aside0.mk H; clear H
            go_wp2
            go_meet
            case rel => exact ⟨_, (t341), (t342), H', ⟨by have := HJ6.out; first | omega | exact Nat.le_refl _⟩, ⟨by (with_reducible repeat (first | apply Kd.R_alloc | apply Kd.R_drewN | apply Kd.R_drew)); exact HO_8.out⟩, ⟨by (with_reducible repeat (first | refine blk_drewN ?_ _ | refine blk_drew ?_ | refine blk_alloc ?_ _)); exact BK355.out⟩, ⟨by (with_reducible repeat (first | refine blk_drewN ?_ _ | refine blk_drew ?_ | refine blk_alloc ?_ _)); exact BK356.out⟩, ⟨by repeat (first | (with_reducible first | exact HI337.out | apply IsS25.alloc | apply IsS25.drewN | apply IsS25.drew | apply IsS25.set_1 | refine IsS25.far ?_ NB337_355.out _ | refine IsS25.far ?_ NB337_356.out _) | exact HI337.out)⟩, ⟨by repeat (first | (with_reducible first | exact HB.out | apply below_alloc | apply pw_below_drewN | apply below_drew1 | refine below_set ?_ (IsS25.ge HI337.out) | refine below_set ?_ GE355.out | refine below_set ?_ GE356.out) | exact HB.out)⟩⟩
      case rest =>
        clear HC26
        try clear c1
        try clear c2
        try clear p2
        try clear c3
        try clear c5
        try clear c6
        try clear c8
        try clear c9
        try clear c19
        try clear c20
        try clear c22
        try clear c27
        try clear c28
        try clear c29
        try clear c30
        try clear c31
        try clear hcz21_0
        try clear hcz21_1
        try clear hcz23_0
        try clear hcz23_1
        try clear hcz30_0
        try clear hcz30_1
        try clear hcz32_0
        try clear hcz32_1
        try clear hfz21_0
        try clear hfz21_1
        try clear hfz23_0
        try clear hfz23_1
        try clear hfz30_0
        try clear hfz30_1
        try clear hfz32_0
        try clear hfz32_1
        try clear p2
        obtain ⟨kq, x357000_25, x357001_25, HA, HJ25, HO_8, BK355, BK356, HI337, HB⟩ := hcut
        cases kq with
        | zero => exact absurd HA.out (by simp [pilelaw1_PlacesApart.j1])
        | succ kj25 =>
          have H := HA.out; clear HA
          simp only [pilelaw1_PlacesApart.j1] at H
          replace H := Option.bind_eq_some_iff.mp H; obtain ⟨⟨t359, t360⟩, A330, H⟩ := H; (replace H : ((pilemake_Stream_Pick.f l0 t360 (([0, 216000, (-216000), 324000, 648000, 1296000, 1000000, t359, 1296000001] : List Int))).bind fun bt364 => ((place_Cosine.f kj25 bt364.1).bind fun bt366 => ((pileref1_SpanFault.f bt364.1 (-1296000000) 1296000000).bind fun t368 => (if bt366.2 = t368 then (if t368 = 0 then ((pileref1_CosineOf.f kj25 bt364.1).bind fun t369 => (if bt366.1 = t369 then (pilelaw1_PlacesApart.j2 kj25 t347 t349 t351 false t338 t339 x357000_25 x357001_25) else (pilelaw1_PlacesApart.j2 kj25 t347 t349 t351 true t338 t339 x357000_25 x357001_25))) else (pilelaw1_PlacesApart.j2 kj25 t347 t349 t351 (bt366.1 != 0) t338 t339 x357000_25 x357001_25)) else (pilelaw1_PlacesApart.j2 kj25 t347 t349 t351 true t338 t339 x357000_25 x357001_25))))) = some r := H); have A33 := Aside0.mk A330; clear A330; obtain ⟨y361, hy361⟩ : ∃ y_ : List Int, y_ = (([0, 216000, (-216000), 324000, 648000, 1296000, 1000000, t359, 1296000001] : List Int)) := ⟨_, rfl⟩; (replace H : ((pilemake_Stream_Pick.f l0 t360 y361).bind fun bt364 => ((place_Cosine.f kj25 bt364.1).bind fun bt366 => ((pileref1_SpanFault.f bt364.1 (-1296000000) 1296000000).bind fun t368 => (if bt366.2 = t368 then (if t368 = 0 then ((pileref1_CosineOf.f kj25 bt364.1).bind fun t369 => (if bt366.1 = t369 then (pilelaw1_PlacesApart.j2 kj25 t347 t349 t351 false t338 t339 x357000_25 x357001_25) else (pilelaw1_PlacesApart.j2 kj25 t347 t349 t351 true t338 t339 x357000_25 x357001_25))) else (pilelaw1_PlacesApart.j2 kj25 t347 t349 t351 (bt366.1 != 0) t338 t339 x357000_25 x357001_25)) else (pilelaw1_PlacesApart.j2 kj25 t347 t349 t351 true t338 t339 x357000_25 x357001_25))))) = some r := by first | (rw [hy361]; with_reducible exact H) | (have H2_ := (Option.bind_some _ _).symm.trans H; rw [hy361]; with_reducible exact H2_) | (have H2_ := (Option.bind_some _ _).symm.trans H; with_reducible exact H2_) | with_reducible exact H | (rw [hy361]; exact H) | exact H); have Ny361 := Aside0.mk hy361; clear hy361; replace H := Option.bind_eq_some_iff.mp H; obtain ⟨⟨t364, t365⟩, A340, H⟩ := H; (replace H : ((place_Cosine.f kj25 t364).bind fun bt366 => ((pileref1_SpanFault.f t364 (-1296000000) 1296000000).bind fun t368 => (if bt366.2 = t368 then (if t368 = 0 then ((pileref1_CosineOf.f kj25 t364).bind fun t369 => (if bt366.1 = t369 then (pilelaw1_PlacesApart.j2 kj25 t347 t349 t351 false t338 t339 x357000_25 x357001_25) else (pilelaw1_PlacesApart.j2 kj25 t347 t349 t351 true t338 t339 x357000_25 x357001_25))) else (pilelaw1_PlacesApart.j2 kj25 t347 t349 t351 (bt366.1 != 0) t338 t339 x357000_25 x357001_25)) else (pilelaw1_PlacesApart.j2 kj25 t347 t349 t351 true t338 t339 x357000_25 x357001_25)))) = some r := H); have A34 := Aside0.mk A340; clear A340; replace H := Option.bind_eq_some_iff.mp H; obtain ⟨⟨t366, t367⟩, A350, H⟩ := H; (replace H : ((pileref1_SpanFault.f t364 (-1296000000) 1296000000).bind fun t368 => (if t367 = t368 then (if t368 = 0 then ((pileref1_CosineOf.f kj25 t364).bind fun t369 => (if t366 = t369 then (pilelaw1_PlacesApart.j2 kj25 t347 t349 t351 false t338 t339 x357000_25 x357001_25) else (pilelaw1_PlacesApart.j2 kj25 t347 t349 t351 true t338 t339 x357000_25 x357001_25))) else (pilelaw1_PlacesApart.j2 kj25 t347 t349 t351 (t366 != 0) t338 t339 x357000_25 x357001_25)) else (pilelaw1_PlacesApart.j2 kj25 t347 t349 t351 true t338 t339 x357000_25 x357001_25))) = some r := H); have A35 := Aside0.mk A350; clear A350; replace H := Option.bind_eq_some_iff.mp H; obtain ⟨t368, A360, H⟩ := H; (replace H : (if t367 = t368 then (if t368 = 0 then ((pileref1_CosineOf.f kj25 t364).bind fun t369 => (if t366 = t369 then (pilelaw1_PlacesApart.j2 kj25 t347 t349 t351 false t338 t339 x357000_25 x357001_25) else (pilelaw1_PlacesApart.j2 kj25 t347 t349 t351 true t338 t339 x357000_25 x357001_25))) else (pilelaw1_PlacesApart.j2 kj25 t347 t349 t351 (t366 != 0) t338 t339 x357000_25 x357001_25)) else (pilelaw1_PlacesApart.j2 kj25 t347 t349 t351 true t338 t339 x357000_25 x357001_25)) = some r := H); have A36 := Aside0.mk A360; clear A360; have HC37 := Aside0.mk H; clear H
          go_upto_region 8 with (first | ((with_reducible refine gate_callee (f := 32) rfl ?_); refine goesL_ (some 49) rfl rfl Try.func32 (by kernel_rfl) rfl #[.pointer (some ⟨gb337, 0, none⟩), .int .i64 (-3000000), .int .i64 3000000] rfl (by (try simp only [List.map_toArray, List.map_cons, List.map_nil]); first | done | rfl | (simp only [List.length_drop, List.length_take]; rfl)) ?_; (with_reducible refine (pilemake_Stream_Range.calls gb337 l0 x338001_6 (-3000000) 3000000 t359 t360 w _ ?side1 ?side2 A33.out).mono ?_); (case side1 => repeat (first | (with_reducible first | exact HI337.out | apply IsS25.alloc | apply IsS25.drewN | apply IsS25.drew | apply IsS25.set_1 | refine IsS25.far ?_ NB337_355.out _ | refine IsS25.far ?_ NB337_356.out _) | exact HI337.out)); (case side2 => repeat (first | (with_reducible first | exact HB.out | apply below_alloc | apply pw_below_drewN | apply below_drew1 | refine below_set ?_ (IsS25.ge HI337.out) | refine below_set ?_ GE355.out | refine below_set ?_ GE356.out) | exact HB.out)); rintro e w38 ⟨rfl, hi, hb, hk⟩; refine ⟨_, rfl, ?_⟩; have n0_ := Aside0.mk (Kd.R_mono (Kd.R_keep (IsS25.apart (show IsS25 w _ gb337 l0 x338001_6 from by repeat (first | (with_reducible first | exact HI337.out | apply IsS25.alloc | apply IsS25.drewN | apply IsS25.drew | apply IsS25.set_1 | refine IsS25.far ?_ NB337_355.out _ | refine IsS25.far ?_ NB337_356.out _) | exact HI337.out)) (Kd.R_up HO_8.out) (by decide)) hk (fun _ h => h.2)) (fun _ h => h.1)); have n1_ := Aside0.mk (KeepBut.blk hk (g' := gb355) (o := .cells #[.int .i64 t338, .int .i64 t339] 27 (0, 0)) (blk_up BK355.out) NB355_337.out (by simp)); have n2_ := Aside0.mk (KeepBut.blk hk (g' := gb356) (o := .cells #[.int .i64 x357000_25, .int .i64 x357001_25] 27 (0, 0)) (blk_up BK356.out) NB356_337.out (by simp)); have n3_ := Aside0.mk (hb); have n4_ := Aside0.mk (hi); clear HO_8; clear BK355; clear BK356; clear HB; clear HI337; have HO_8 := n0_; have BK355 := n1_; have BK356 := n2_; have HB := n3_; have HI337 := n4_; clear n0_ n1_ n2_ n3_ n4_; (try clear hb); (try clear hb2); (try clear hk); (try clear hi)) | ((with_reducible refine gate_dst (N := 50) rfl ?_); refine Kd.R_lit (Kd.int .i64) _ 3 ?hg (N := 50) ?hd (xs := ([0, 216000, (-216000), 324000, 648000, 1296000, 1000000, t359, 1296000001] : List Int)) (inner := [.int .i64 0, .int .i64 216000, .int .i64 (-216000), .int .i64 324000, .int .i64 648000, .int .i64 1296000, .int .i64 1000000, .int .i64 t359, .int .i64 1296000001]) (ok := fun _ => True) (okp := fun _ => True) ?hr ?hp (fun _ hk => hk) trivial (Below.refl _ _) (Nat.le_refl _) (by simp) ?_; (case hd => rfl); (case hg => rfl); (case hr => first | (go_simp; done) | (go_simp; rfl)); (case hp => exact (Reps.one (show Kd.M (Kd.int .i64) _ _ _ 0 [.int .i64 0] from rfl) (Reps.one (show Kd.M (Kd.int .i64) _ _ _ 216000 [.int .i64 216000] from rfl) (Reps.one (show Kd.M (Kd.int .i64) _ _ _ (-216000) [.int .i64 (-216000)] from rfl) (Reps.one (show Kd.M (Kd.int .i64) _ _ _ 324000 [.int .i64 324000] from rfl) (Reps.one (show Kd.M (Kd.int .i64) _ _ _ 648000 [.int .i64 648000] from rfl) (Reps.one (show Kd.M (Kd.int .i64) _ _ _ 1296000 [.int .i64 1296000] from rfl) (Reps.one (show Kd.M (Kd.int .i64) _ _ _ 1000000 [.int .i64 1000000] from rfl) (Reps.one (show Kd.M (Kd.int .i64) _ _ _ t359 [.int .i64 t359] from rfl) (Reps.one (show Kd.M (Kd.int .i64) _ _ _ 1296000001 [.int .i64 1296000001] from rfl) (Reps.none _ _))))))))))); intro v362 w39 ho40 hb hg_ hnew_; clear hg_ hnew_; (first | rw [← Ny361.out] at ho40 | (simp only [Int.reduceToNat] at ho40; rw [← Ny361.out] at ho40)); have n0_ := Aside0.mk (Kd.R_below (Kd.R_up HO_8.out) hb); have n1_ := Aside0.mk (Kd.R_lower ho40 (below_size (by repeat (first | (with_reducible first | exact HB.out | apply below_alloc | apply pw_below_drewN | apply below_drew1 | refine below_set ?_ (IsS25.ge HI337.out) | refine below_set ?_ GE355.out | refine below_set ?_ GE356.out) | exact HB.out)))); have n2_ := Aside0.mk (blk_below (g := gb355) (o := .cells #[.int .i64 t338, .int .i64 t339] 27 (0, 0)) (blk_up BK355.out) hb); have n3_ := Aside0.mk (blk_below (g := gb356) (o := .cells #[.int .i64 x357000_25, .int .i64 x357001_25] 27 (0, 0)) (blk_up BK356.out) hb); have n4_ := Aside0.mk (IsS25.below (by repeat (first | (with_reducible first | exact HI337.out | apply IsS25.alloc | apply IsS25.drewN | apply IsS25.drew | apply IsS25.set_1 | refine IsS25.far ?_ NB337_355.out _ | refine IsS25.far ?_ NB337_356.out _) | exact HI337.out)) hb); have n5_ := Aside0.mk (below_step (by repeat (first | (with_reducible first | exact HB.out | apply below_alloc | apply pw_below_drewN | apply below_drew1 | refine below_set ?_ (IsS25.ge HI337.out) | refine below_set ?_ GE355.out | refine below_set ?_ GE356.out) | exact HB.out)) hb); clear HO_8; clear BK355; clear BK356; clear HI337; clear HB; have HO_8 := n0_; have HO363 := n1_; have BK355 := n2_; have BK356 := n3_; have HI337 := n4_; have HB := n5_; clear n0_ n1_ n2_ n3_ n4_ n5_; clear hb ho40; obtain ⟨Ao41, co41, eo41⟩ := Kd.R_slice HO363.out; subst eo41) | ((with_reducible refine gate_callee (f := 8) rfl ?_); refine goesL_ (some 51) rfl rfl Try.func8 (by kernel_rfl) rfl #[.pointer (some ⟨gb337, 0, none⟩), .slice Ao41 y361.length co41] rfl (by (try simp only [List.map_toArray, List.map_cons, List.map_nil]); first | done | rfl | (simp only [List.length_drop, List.length_take]; rfl)) ?_; (with_reducible refine (pilemake_Stream_Pick.calls gb337 l0 t360 _ _ y361 t364 t365 w _ ?side1 ?side2 ?side3 ?side4 ?side5 A34.out).mono ?_); (case side1 => repeat (first | (with_reducible first | exact HI337.out | apply IsS25.alloc | apply IsS25.drewN | apply IsS25.drew | apply IsS25.set_1 | refine IsS25.far ?_ NB337_355.out _ | refine IsS25.far ?_ NB337_356.out _) | exact HI337.out)); (case side2 => repeat (first | (with_reducible first | exact HB.out | apply below_alloc | apply pw_below_drewN | apply below_drew1 | refine below_set ?_ (IsS25.ge HI337.out) | refine below_set ?_ GE355.out | refine below_set ?_ GE356.out) | exact HB.out)); (case side3 => repeat (first | exact (Kd.R_reads' HO363.out).2.2 | (with_reducible refine Kd.C_alloc ?_ _) | (with_reducible refine Kd.C_drewN ?_ _) | (with_reducible refine Kd.C_drew ?_))); (case side4 => exact (Kd.R_reads' HO363.out).2.1); (case side5 => exact far_slice (IsS25.own_ne HI337.out HO363.out (by decide))); rintro e w42 ⟨rfl, hi, hb, hk⟩; refine ⟨_, rfl, ?_⟩; have n0_ := Aside0.mk (Kd.R_mono (Kd.R_keep (IsS25.apart (show IsS25 w _ gb337 l0 t360 from by repeat (first | (with_reducible first | exact HI337.out | apply IsS25.alloc | apply IsS25.drewN | apply IsS25.drew | apply IsS25.set_1 | refine IsS25.far ?_ NB337_355.out _ | refine IsS25.far ?_ NB337_356.out _) | exact HI337.out)) (Kd.R_up HO_8.out) (by decide)) hk (fun _ h => h.2)) (fun _ h => h.1)); have n1_ := Aside0.mk (KeepBut.blk hk (g' := gb355) (o := .cells #[.int .i64 t338, .int .i64 t339] 27 (0, 0)) (blk_up BK355.out) NB355_337.out (by simp)); have n2_ := Aside0.mk (KeepBut.blk hk (g' := gb356) (o := .cells #[.int .i64 x357000_25, .int .i64 x357001_25] 27 (0, 0)) (blk_up BK356.out) NB356_337.out (by simp)); have n3_ := Aside0.mk (Kd.R_mono (Kd.R_keep (IsS25.apart (show IsS25 w _ gb337 l0 t360 from by repeat (first | (with_reducible first | exact HI337.out | apply IsS25.alloc | apply IsS25.drewN | apply IsS25.drew | apply IsS25.set_1 | refine IsS25.far ?_ NB337_355.out _ | refine IsS25.far ?_ NB337_356.out _) | exact HI337.out)) (Kd.R_up HO363.out) (by decide)) hk (fun _ h => h.2)) (fun _ h => h.1)); have n4_ := Aside0.mk (hb); have n5_ := Aside0.mk (hi); clear HO_8; clear BK355; clear BK356; clear HO363; clear HB; clear HI337; have HO_8 := n0_; have BK355 := n1_; have BK356 := n2_; have HO363 := n3_; have HB := n4_; have HI337 := n5_; clear n0_ n1_ n2_ n3_ n4_ n5_; (try clear hb); (try clear hb2); (try clear hk); (try clear hi)) | ((with_reducible refine gate_callee (f := 33) rfl ?_); refine goesL_ (some 54) rfl rfl Try.func33 (by kernel_rfl) rfl #[.int .i64 t364] rfl (by (try simp only [List.map_toArray, List.map_cons, List.map_nil]); first | done | rfl | (simp only [List.length_drop, List.length_take]; rfl)) ?_; (with_reducible refine (place_Cosine.calls kj25 t364 t366 t367 _ A35.out).mono ?_); rintro e w' ⟨rfl, ⟨nd, rfl⟩⟩; refine ⟨_, rfl, ?_⟩) | ((with_reducible refine gate_callee (f := 16) rfl ?_); refine goesL_ (some 58) rfl rfl Try.func16 (by kernel_rfl) rfl #[.int .i64 t364, .int .i64 (-1296000000), .int .i64 1296000000] rfl (by (try simp only [List.map_toArray, List.map_cons, List.map_nil]); first | done | rfl | (simp only [List.length_drop, List.length_take]; rfl)) ?_; (with_reducible refine (pileref1_SpanFault.calls t364 (-1296000000) 1296000000 t368 _ A36.out).mono ?_); rintro e w' ⟨rfl, ⟨nd, rfl⟩⟩; refine ⟨_, rfl, ?_⟩))
          (try simp only [Act.put, List.setIfInBounds_toArray, List.set_cons_zero, List.set_cons_succ])
          go_cut [79] (fun v79 wc => ∃ (kq : Nat) (x79_36 : Bool), v79 = .bool x79_36 ∧ Aside0 (pilelaw1_PlacesApart.j2 kq t347 t349 t351 x79_36 t338 t339 x357000_25 x357001_25 = some r) ∧ Aside0 (kq ≤ kj25) ∧ Aside0 (Kd.R Kd.string 9 wc w.heap.size (fun _ => True) v352 t351) ∧ Aside0 (wc.heap[gb355]? = some (.cells #[.int .i64 t338, .int .i64 t339] 27 (0, 0))) ∧ Aside0 (wc.heap[gb356]? = some (.cells #[.int .i64 x357000_25, .int .i64 x357001_25] 27 (0, 0))) ∧ Aside0 (Below w.heap.size w wc))
          case first =>
            have H := HC37.out; clear HC37
            by_cases c43 : t367 = t368
            · rw [if_pos c43] at H
              have c43b0 : (t367 == t368) = true := beq_iff_eq.mpr c43; have c43b1 : (t367 != t368) = false := bne_eq_false_iff_eq.mpr c43; clear c43
              (first | rw [c43b0] | (simp only [i64_w, i32_w]; rw [c43b0]) | skip)
              by_cases c44 : t368 = 0
              · rw [if_pos c44] at H
                have c44b0 : (t368 == 0) = true := beq_iff_eq.mpr c44; have c44b1 : (t368 != 0) = false := bne_eq_false_iff_eq.mpr c44; clear c44; replace H := Option.bind_eq_some_iff.mp H; obtain ⟨t369, A450, H⟩ := H; replace H : (if t366 = t369 then (pilelaw1_PlacesApart.j2 kj25 t347 t349 t351 false t338 t339 x357000_25 x357001_25) else (pilelaw1_PlacesApart.j2 kj25 t347 t349 t351 true t338 t339 x357000_25 x357001_25)) = some r := H; have A45 := Aside0.mk A450; clear A450
                by_cases c46 : t366 = t369
                · rw [if_pos c46] at H
                  have c46b0 : (t366 == t369) = true := beq_iff_eq.mpr c46; have c46b1 : (t366 != t369) = false := bne_eq_false_iff_eq.mpr c46; clear c46
                  as_aux_lemma =>
                    have H' := Aside0.mk H; clear H
                    go_wp2_with (first | (go_at_call 34; (with_reducible refine (pileref1_CosineOf.calls kj25 t364 t369 _ A45.out).mono ?_); rintro e w47 ⟨rfl, hb⟩; have n0_ := Aside0.mk (Kd.R_below (Kd.R_up HO_8.out) hb); have n1_ := Aside0.mk (blk_below (g := gb355) (o := .cells #[.int .i64 t338, .int .i64 t339] 27 (0, 0)) (blk_up BK355.out) hb); have n2_ := Aside0.mk (blk_below (g := gb356) (o := .cells #[.int .i64 x357000_25, .int .i64 x357001_25] 27 (0, 0)) (blk_up BK356.out) hb); have n3_ := Aside0.mk (IsS25.below (by repeat (first | (with_reducible first | exact HI337.out | apply IsS25.alloc | apply IsS25.drewN | apply IsS25.drew | apply IsS25.set_1 | refine IsS25.far ?_ NB337_355.out _ | refine IsS25.far ?_ NB337_356.out _) | exact HI337.out)) hb); have n4_ := Aside0.mk (below_step (by repeat (first | (with_reducible first | exact HB.out | apply below_alloc | apply pw_below_drewN | apply below_drew1 | refine below_set ?_ (IsS25.ge HI337.out) | refine below_set ?_ GE355.out | refine below_set ?_ GE356.out) | exact HB.out)) hb); clear HO_8; clear BK355; clear BK356; clear HI337; clear HB; have HO_8 := n0_; have BK355 := n1_; have BK356 := n2_; have HI337 := n3_; have HB := n4_; clear n0_ n1_ n2_ n3_ n4_; (try clear hb); (try clear hb2); (try clear hk); (try clear hi)))
                    go_meet
                    case rel => exact ⟨_, (false), (by first | rfl | (simp; done) | (simp [*]; done)), H', ⟨by have := HJ6.out; have := HJ25.out; first | omega | exact Nat.le_refl _⟩, ⟨by (with_reducible repeat (first | apply Kd.R_alloc | apply Kd.R_drewN | apply Kd.R_drew)); exact HO_8.out⟩, ⟨by (with_reducible repeat (first | refine blk_drewN ?_ _ | refine blk_drew ?_ | refine blk_alloc ?_ _)); exact BK355.out⟩, ⟨by (with_reducible repeat (first | refine blk_drewN ?_ _ | refine blk_drew ?_ | refine blk_alloc ?_ _)); exact BK356.out⟩, ⟨by repeat (first | (with_reducible first | exact HB.out | apply below_alloc | apply pw_below_drewN | apply below_drew1 | refine below_set ?_ (IsS25.ge HI337.out) | refine below_set ?_ GE355.out | refine below_set ?_ GE356.out) | exact HB.out)⟩⟩
                · rw [if_neg c46] at H
                  have c46b0 : (t366 == t369) = false := beq_eq_false_iff_ne.mpr c46; have c46b1 : (t366 != t369) = true := bne_iff_ne.mpr c46
                  as_aux_lemma =>
                    have H' := Aside0.mk H; clear H
                    go_wp2_with (first | (go_at_call 34; (with_reducible refine (pileref1_CosineOf.calls kj25 t364 t369 _ A45.out).mono ?_); rintro e w48 ⟨rfl, hb⟩; have n0_ := Aside0.mk (Kd.R_below (Kd.R_up HO_8.out) hb); have n1_ := Aside0.mk (blk_below (g := gb355) (o := .cells #[.int .i64 t338, .int .i64 t339] 27 (0, 0)) (blk_up BK355.out) hb); have n2_ := Aside0.mk (blk_below (g := gb356) (o := .cells #[.int .i64 x357000_25, .int .i64 x357001_25] 27 (0, 0)) (blk_up BK356.out) hb); have n3_ := Aside0.mk (IsS25.below (by repeat (first | (with_reducible first | exact HI337.out | apply IsS25.alloc | apply IsS25.drewN | apply IsS25.drew | apply IsS25.set_1 | refine IsS25.far ?_ NB337_355.out _ | refine IsS25.far ?_ NB337_356.out _) | exact HI337.out)) hb); have n4_ := Aside0.mk (below_step (by repeat (first | (with_reducible first | exact HB.out | apply below_alloc | apply pw_below_drewN | apply below_drew1 | refine below_set ?_ (IsS25.ge HI337.out) | refine below_set ?_ GE355.out | refine below_set ?_ GE356.out) | exact HB.out)) hb); clear HO_8; clear BK355; clear BK356; clear HI337; clear HB; have HO_8 := n0_; have BK355 := n1_; have BK356 := n2_; have HI337 := n3_; have HB := n4_; clear n0_ n1_ n2_ n3_ n4_; (try clear hb); (try clear hb2); (try clear hk); (try clear hi)))
                    go_meet
                    case rel => exact ⟨_, (true), (by first | rfl | (simp; done) | (simp [*]; done)), H', ⟨by have := HJ6.out; have := HJ25.out; first | omega | exact Nat.le_refl _⟩, ⟨by (with_reducible repeat (first | apply Kd.R_alloc | apply Kd.R_drewN | apply Kd.R_drew)); exact HO_8.out⟩, ⟨by (with_reducible repeat (first | refine blk_drewN ?_ _ | refine blk_drew ?_ | refine blk_alloc ?_ _)); exact BK355.out⟩, ⟨by (with_reducible repeat (first | refine blk_drewN ?_ _ | refine blk_drew ?_ | refine blk_alloc ?_ _)); exact BK356.out⟩, ⟨by repeat (first | (with_reducible first | exact HB.out | apply below_alloc | apply pw_below_drewN | apply below_drew1 | refine below_set ?_ (IsS25.ge HI337.out) | refine below_set ?_ GE355.out | refine below_set ?_ GE356.out) | exact HB.out)⟩⟩
              · rw [if_neg c44] at H
                have c44b0 : (t368 == 0) = false := beq_eq_false_iff_ne.mpr c44; have c44b1 : (t368 != 0) = true := bne_iff_ne.mpr c44
                as_aux_lemma =>
                  have H' := Aside0.mk H; clear H
                  go_wp2
                  go_meet
                  case rel => exact ⟨_, ((t366 != 0)), (by first | rfl | (simp; done) | (simp [*]; done)), H', ⟨by have := HJ6.out; have := HJ25.out; first | omega | exact Nat.le_refl _⟩, ⟨by (with_reducible repeat (first | apply Kd.R_alloc | apply Kd.R_drewN | apply Kd.R_drew)); exact HO_8.out⟩, ⟨by (with_reducible repeat (first | refine blk_drewN ?_ _ | refine blk_drew ?_ | refine blk_alloc ?_ _)); exact BK355.out⟩, ⟨by (with_reducible repeat (first | refine blk_drewN ?_ _ | refine blk_drew ?_ | refine blk_alloc ?_ _)); exact BK356.out⟩, ⟨by repeat (first | (with_reducible first | exact HB.out | apply below_alloc | apply pw_below_drewN | apply below_drew1 | refine below_set ?_ (IsS25.ge HI337.out) | refine below_set ?_ GE355.out | refine below_set ?_ GE356.out) | exact HB.out)⟩⟩
            · rw [if_neg c43] at H
              have c43b0 : (t367 == t368) = false := beq_eq_false_iff_ne.mpr c43; have c43b1 : (t367 != t368) = true := bne_iff_ne.mpr c43
              (first | rw [c43b0] | (simp only [i64_w, i32_w]; rw [c43b0]) | skip)
              as_aux_lemma =>
                have H' := Aside0.mk H; clear H
                go_wp2
                go_meet
                case rel => exact ⟨_, (true), (by first | rfl | (simp; done) | (simp [*]; done)), H', ⟨by have := HJ6.out; have := HJ25.out; first | omega | exact Nat.le_refl _⟩, ⟨by (with_reducible repeat (first | apply Kd.R_alloc | apply Kd.R_drewN | apply Kd.R_drew)); exact HO_8.out⟩, ⟨by (with_reducible repeat (first | refine blk_drewN ?_ _ | refine blk_drew ?_ | refine blk_alloc ?_ _)); exact BK355.out⟩, ⟨by (with_reducible repeat (first | refine blk_drewN ?_ _ | refine blk_drew ?_ | refine blk_alloc ?_ _)); exact BK356.out⟩, ⟨by repeat (first | (with_reducible first | exact HB.out | apply below_alloc | apply pw_below_drewN | apply below_drew1 | refine below_set ?_ (IsS25.ge HI337.out) | refine below_set ?_ GE355.out | refine below_set ?_ GE356.out) | exact HB.out)⟩⟩
          case rest =>
            clear HC37
            try clear c1
            try clear c2
            try clear p2
            try clear c3
            try clear c4
            try clear c5
            try clear c6
            try clear c8
            try clear c9
            try clear c16
            try clear c19
            try clear c20
            try clear c22
            try clear c27
            try clear c28
            try clear c29
            try clear c30
            try clear c31
            try clear c32
            try clear c33
            try clear c43
            try clear c43b0
            try clear c43b1
            try clear c44
            try clear c44b0
            try clear c44b1
            try clear c46
            try clear c46b0
            try clear c46b1
            try clear hcz21_0
            try clear hcz21_1
            try clear hcz23_0
            try clear hcz23_1
            try clear hcz30_0
            try clear hcz30_1
            try clear hcz32_0
            try clear hcz32_1
            try clear hfz21_0
            try clear hfz21_1
            try clear hfz23_0
            try clear hfz23_1
            try clear hfz30_0
            try clear hfz30_1
            try clear hfz32_0
            try clear hfz32_1
            try clear p2
            obtain ⟨kq, x79_36, rfl, HA, HJ36, HO_8, BK355, BK356, HB⟩ := hcut
            cases kq with
            | zero => exact absurd HA.out (by simp [pilelaw1_PlacesApart.j2])
            | succ kj36 =>
              have H := HA.out; clear HA
              simp only [pilelaw1_PlacesApart.j2] at H
              by_cases c49 : x79_36 = true
              · subst c49
                (have H1 : (some false) = some r := by rw [if_pos rfl] at H; exact H); clear H; have H := H1; clear H1
                as_aux_lemma =>
                  obtain rfl := Option.some.inj H
                  go_wp2
                  go_ret
                  exact ⟨by first | rfl | (simp [errW_none, errW_some] <;> rfl) | (simp [*, errW_none, errW_some] <;> rfl), by repeat (first | (with_reducible first | exact HB.out | apply below_alloc | apply pw_below_drewN | apply below_drew1 | refine below_set ?_ GE355.out | refine below_set ?_ GE356.out) | exact HB.out)⟩
              · replace c49 := Bool.eq_false_iff.mpr c49
                subst c49; (have H1 : ((pileref1_SiteFault.f t338 t339).bind fun t370 => ((pileref1_SiteFault.f x357000_25 x357001_25).bind fun t371 => ((api_Errno.f kj36 (([t370, t371] : List Int))).bind fun t375 => ((place_Distance.f kj36 t338 t339 x357000_25 x357001_25).bind fun bt376 => (pilelaw1_PlacesApart.j3 kj36 t347 t349 t351 bt376.2 t375 bt376.1 t338 t339 x357000_25 x357001_25))))) = some r := by rw [if_neg (show ¬ (false = true) by decide)] at H; exact H); clear H; have H := H1; clear H1; replace H := Option.bind_eq_some_iff.mp H; obtain ⟨t370, A500, H⟩ := H; (replace H : ((pileref1_SiteFault.f x357000_25 x357001_25).bind fun t371 => ((api_Errno.f kj36 (([t370, t371] : List Int))).bind fun t375 => ((place_Distance.f kj36 t338 t339 x357000_25 x357001_25).bind fun bt376 => (pilelaw1_PlacesApart.j3 kj36 t347 t349 t351 bt376.2 t375 bt376.1 t338 t339 x357000_25 x357001_25)))) = some r := H); have A50 := Aside0.mk A500; clear A500; replace H := Option.bind_eq_some_iff.mp H; obtain ⟨t371, A510, H⟩ := H; (replace H : ((api_Errno.f kj36 (([t370, t371] : List Int))).bind fun t375 => ((place_Distance.f kj36 t338 t339 x357000_25 x357001_25).bind fun bt376 => (pilelaw1_PlacesApart.j3 kj36 t347 t349 t351 bt376.2 t375 bt376.1 t338 t339 x357000_25 x357001_25))) = some r := H); have A51 := Aside0.mk A510; clear A510; obtain ⟨y372, hy372⟩ : ∃ y_ : List Int, y_ = (([t370, t371] : List Int)) := ⟨_, rfl⟩; (replace H : ((api_Errno.f kj36 y372).bind fun t375 => ((place_Distance.f kj36 t338 t339 x357000_25 x357001_25).bind fun bt376 => (pilelaw1_PlacesApart.j3 kj36 t347 t349 t351 bt376.2 t375 bt376.1 t338 t339 x357000_25 x357001_25))) = some r := by first | (rw [hy372]; with_reducible exact H) | (have H2_ := (Option.bind_some _ _).symm.trans H; rw [hy372]; with_reducible exact H2_) | (have H2_ := (Option.bind_some _ _).symm.trans H; with_reducible exact H2_) | with_reducible exact H | (rw [hy372]; exact H) | exact H); have Ny372 := Aside0.mk hy372; clear hy372; replace H := Option.bind_eq_some_iff.mp H; obtain ⟨t375, A520, H⟩ := H; (replace H : ((place_Distance.f kj36 t338 t339 x357000_25 x357001_25).bind fun bt376 => (pilelaw1_PlacesApart.j3 kj36 t347 t349 t351 bt376.2 t375 bt376.1 t338 t339 x357000_25 x357001_25)) = some r := H); have A52 := Aside0.mk A520; clear A520; have HC53 := Aside0.mk H; clear H
                try go_wp2
                have n0_ := Aside0.mk (Kd.R_drew HO_8.out); have n1_ := Aside0.mk (blk_drew BK355.out); have n2_ := Aside0.mk (blk_drew BK356.out); have n3_ := Aside0.mk (below_drew1 HB.out); clear HO_8; clear BK355; clear BK356; clear HB; have HO_8 := n0_; have BK355 := n1_; have BK356 := n2_; have HB := n3_; clear n0_ n1_ n2_ n3_
                refine start_ (n := 7) (S := fun w' => w'.cell? ⟨gb355, 0, none⟩ = some (.int .i64 t338) ∧ w'.cell? ⟨gb355, 1, none⟩ = some (.int .i64 t339) ∧ w'.cell? ⟨gb356, 0, none⟩ = some (.int .i64 x357000_25) ∧ w'.cell? ⟨gb356, 1, none⟩ = some (.int .i64 x357001_25)) (ds := []) #[false, false, false, false, false, false, false] (by kernel_rfl) rfl rfl ⟨(blk_cell BK355.out 0).trans rfl, (blk_cell BK355.out 1).trans rfl, (blk_cell BK356.out 0).trans rfl, (blk_cell BK356.out 1).trans rfl⟩ (fun hHeld => ?_)
                generalize wc.drew = w54 at HO_8 BK355 BK356 HB hHeld ⊢
                refine take_ (i := 0) (N := some 80) (v := ?_) (a' := ?_) #[true, false, false, false, false, false, false] rfl rfl (by kernel_rfl) (fun _ _ _ h => h) (Or.inl ⟨by rfl, ?_⟩) hHeld ?_ ?_
                rotate_left
                · rintro w' ⟨s0, s1, s2, s3⟩
                  go_simp
                  with_reducible rfl
                rotate_left
                · simp only [Act.put, List.setIfInBounds_toArray, List.set_cons_zero, List.set_cons_succ, i64_w, i32_w]
                  rfl
                refine take_ (i := 2) (N := some 82) (v := ?_) (a' := ?_) #[true, false, true, false, false, false, false] rfl rfl (by kernel_rfl) (fun _ _ _ h => h) (Or.inl ⟨by rfl, ?_⟩) hHeld ?_ ?_
                rotate_left
                · rintro w' ⟨s0, s1, s2, s3⟩
                  go_simp
                  with_reducible rfl
                rotate_left
                · simp only [Act.put, List.setIfInBounds_toArray, List.set_cons_zero, List.set_cons_succ, i64_w, i32_w]
                  rfl
                refine one_ (i := 1) (N := some 81) #[true, true, true, false, false, false, false] rfl rfl (by kernel_rfl) (by decide) (fun K hK => ?_)
                refine goes_ Try.func15 (by kernel_rfl) rfl #[.agg #[.int .i64 t338, .int .i64 t339]] (by rfl) rfl rfl (by (try simp only [List.map_toArray, List.map_cons, List.map_nil]); first | done | rfl | (simp only [List.length_drop, List.length_take]; rfl)) ?_
                with_reducible refine (pileref1_SiteFault.calls t338 t339 t370 _ A50.out).mono ?_
                rintro e w55 ⟨rfl, hb⟩
                refine ⟨_, rfl, ?_⟩
                have n0_ := Aside0.mk (Kd.R_below (Kd.R_up HO_8.out) hb); have n1_ := Aside0.mk (blk_below (g := gb355) (o := .cells #[.int .i64 t338, .int .i64 t339] 27 (0, 0)) (blk_up BK355.out) hb); have n2_ := Aside0.mk (blk_below (g := gb356) (o := .cells #[.int .i64 x357000_25, .int .i64 x357001_25] 27 (0, 0)) (blk_up BK356.out) hb); (have n3_ := Aside0.mk (below_step (by repeat (first | (with_reducible first | exact HB.out | apply below_alloc | apply pw_below_drewN | apply below_drew1 | refine below_set ?_ GE355.out | refine below_set ?_ GE356.out) | exact HB.out)) hb)); clear HO_8; clear BK355; clear BK356; clear HB; have HO_8 := n0_; have BK355 := n1_; have BK356 := n2_; have HB := n3_; clear n0_ n1_ n2_ n3_; (try clear hb); (try clear hb2); (try clear hk); (try clear hi)
                refine hK.out _ _ ⟨(blk_cell BK355.out 0).trans rfl, (blk_cell BK355.out 1).trans rfl, (blk_cell BK356.out 0).trans rfl, (blk_cell BK356.out 1).trans rfl⟩ (fun hHeld => ?_)
                clear hK K
                refine norm_ (a' := ?_) ?_ ?_
                rotate_left
                · show Act.put _ (some 81) _ = _
                  simp only [Act.put, List.setIfInBounds_toArray, List.set_cons_zero, List.set_cons_succ, i64_w, i32_w]
                  rfl
                refine one_ (i := 3) (N := some 83) #[true, true, true, true, false, false, false] rfl rfl (by kernel_rfl) (by decide) (fun K hK => ?_)
                refine goes_ Try.func15 (by kernel_rfl) rfl #[.agg #[.int .i64 x357000_25, .int .i64 x357001_25]] (by rfl) rfl rfl (by (try simp only [List.map_toArray, List.map_cons, List.map_nil]); first | done | rfl | (simp only [List.length_drop, List.length_take]; rfl)) ?_
                with_reducible refine (pileref1_SiteFault.calls x357000_25 x357001_25 t371 _ A51.out).mono ?_
                rintro e w56 ⟨rfl, hb⟩
                refine ⟨_, rfl, ?_⟩
                have n0_ := Aside0.mk (Kd.R_below (Kd.R_up HO_8.out) hb); have n1_ := Aside0.mk (blk_below (g := gb355) (o := .cells #[.int .i64 t338, .int .i64 t339] 27 (0, 0)) (blk_up BK355.out) hb); have n2_ := Aside0.mk (blk_below (g := gb356) (o := .cells #[.int .i64 x357000_25, .int .i64 x357001_25] 27 (0, 0)) (blk_up BK356.out) hb); (have n3_ := Aside0.mk (below_step (by repeat (first | (with_reducible first | exact HB.out | apply below_alloc | apply pw_below_drewN | apply below_drew1 | refine below_set ?_ GE355.out | refine below_set ?_ GE356.out) | exact HB.out)) hb)); clear HO_8; clear BK355; clear BK356; clear HB; have HO_8 := n0_; have BK355 := n1_; have BK356 := n2_; have HB := n3_; clear n0_ n1_ n2_ n3_; (try clear hb); (try clear hb2); (try clear hk); (try clear hi)
                refine hK.out _ _ ⟨(blk_cell BK355.out 0).trans rfl, (blk_cell BK355.out 1).trans rfl, (blk_cell BK356.out 0).trans rfl, (blk_cell BK356.out 1).trans rfl⟩ (fun hHeld => ?_)
                clear hK K
                refine norm_ (a' := ?_) ?_ ?_
                rotate_left
                · show Act.put _ (some 83) _ = _
                  simp only [Act.put, List.setIfInBounds_toArray, List.set_cons_zero, List.set_cons_succ, i64_w, i32_w]
                  rfl
                refine one_ (i := 4) (N := some 84) #[true, true, true, true, true, false, false] rfl rfl (by kernel_rfl) (by decide) (fun K hK => ?_)
                refine Kd.R_lit_step (Kd.int .i64) _ 32 ?hg (N := 84) ?hd (xs := ([t370, t371] : List Int)) (inner := [.int .i64 t370, .int .i64 t371]) (ok := fun _ => True) (okp := fun _ => True) ?hr ?hp (fun _ hk => hk) trivial (Below.refl _ _) (Nat.le_refl _) (by simp) ?_; (case hd => rfl); (case hg => rfl); (case hr => first | (go_simp; done) | (go_simp; rfl)); (case hp => exact (Reps.one (show Kd.M (Kd.int .i64) _ _ _ t370 [.int .i64 t370] from rfl) (Reps.one (show Kd.M (Kd.int .i64) _ _ _ t371 [.int .i64 t371] from rfl) (Reps.none _ _))))
                intro v373 w57 ho58 hb hg_ hnew_
                clear hg_ hnew_
                (first | rw [← Ny372.out] at ho58 | (simp only [Int.reduceToNat] at ho58; rw [← Ny372.out] at ho58))
                have n0_ := Aside0.mk (Kd.R_below (Kd.R_up HO_8.out) hb); (have n1_ := Aside0.mk (Kd.R_lower ho58 (below_size (by repeat (first | (with_reducible first | exact HB.out | apply below_alloc | apply pw_below_drewN | apply below_drew1 | refine below_set ?_ GE355.out | refine below_set ?_ GE356.out) | exact HB.out))))); have n2_ := Aside0.mk (blk_below (g := gb355) (o := .cells #[.int .i64 t338, .int .i64 t339] 27 (0, 0)) (blk_up BK355.out) hb); have n3_ := Aside0.mk (blk_below (g := gb356) (o := .cells #[.int .i64 x357000_25, .int .i64 x357001_25] 27 (0, 0)) (blk_up BK356.out) hb); (have n4_ := Aside0.mk (below_step (by repeat (first | (with_reducible first | exact HB.out | apply below_alloc | apply pw_below_drewN | apply below_drew1 | refine below_set ?_ GE355.out | refine below_set ?_ GE356.out) | exact HB.out)) hb)); clear HO_8; clear BK355; clear BK356; clear HB; have HO_8 := n0_; have HO374 := n1_; have BK355 := n2_; have BK356 := n3_; have HB := n4_; clear n0_ n1_ n2_ n3_ n4_; clear hb ho58; obtain ⟨Ao59, co59, eo59⟩ := Kd.R_slice HO374.out
                (first | subst eo59 | (injection eo59 with f1_ f2_ f3_; have f4_ := f1_.symm; have f5_ := f3_.symm; clear f1_ f2_ f3_; subst f4_; subst f5_))
                refine hK.out _ _ ⟨(blk_cell BK355.out 0).trans rfl, (blk_cell BK355.out 1).trans rfl, (blk_cell BK356.out 0).trans rfl, (blk_cell BK356.out 1).trans rfl⟩ (fun hHeld => ?_)
                clear hK K
                refine norm_ (a' := ?_) ?_ ?_
                rotate_left
                · show Act.put _ (some 84) _ = _
                  simp only [Act.put, List.setIfInBounds_toArray, List.set_cons_zero, List.set_cons_succ, i64_w, i32_w]
                  rfl
                refine one_ (i := 5) (N := some 85) #[true, true, true, true, true, true, false] rfl rfl (by kernel_rfl) (by decide) (fun K hK => ?_)
                refine goes_ Try.func14 (by kernel_rfl) rfl #[.slice Ao59 y372.length co59] (by rfl) rfl rfl (by (try simp only [List.map_toArray, List.map_cons, List.map_nil]); first | done | rfl | (simp only [List.length_drop, List.length_take]; rfl)) ?_
                with_reducible refine (api_Errno.calls kj36 _ _ y372 t375 _ ?side1 ?side2 A52.out).mono ?_
                (case side1 => repeat (first | exact (Kd.R_reads' HO374.out).2.2 | (with_reducible refine Kd.C_alloc ?_ _) | (with_reducible refine Kd.C_drewN ?_ _) | (with_reducible refine Kd.C_drew ?_)))
                (case side2 => exact (Kd.R_reads' HO374.out).2.1)
                rintro e w' ⟨rfl, ⟨nd, rfl⟩⟩
                refine ⟨_, rfl, ?_⟩
                refine hK.out _ _ ⟨(blk_cell BK355.out 0).trans rfl, (blk_cell BK355.out 1).trans rfl, (blk_cell BK356.out 0).trans rfl, (blk_cell BK356.out 1).trans rfl⟩ (fun hHeld => ?_)
                clear hK K
                refine norm_ (a' := ?_) ?_ ?_
                rotate_left
                · show Act.put _ (some 85) _ = _
                  simp only [Act.put, List.setIfInBounds_toArray, List.set_cons_zero, List.set_cons_succ, i64_w, i32_w]
                  rfl
                refine pure_ (i := 6) (N := some 13) (v := ?_) (a' := ?_) #[true, true, true, true, true, true, true] rfl rfl (by kernel_rfl) (fun _ _ _ h => h) (Or.inl ⟨by rfl, ?_⟩) ?_ ?_
                rotate_left
                · intro w'
                  go_simp
                  with_reducible rfl
                rotate_left
                · simp only [Act.put, List.setIfInBounds_toArray, List.set_cons_zero, List.set_cons_succ, i64_w, i32_w]
                  rfl
                refine done_ (by kernel_rfl) ?_
                go_upto_region 11 with (fail)
                go_cut [11, 14] (fun v11 v14 wc => ∃ (kq : Nat) (x11_52 : Int) (x14_52 : Int), v11 = .int .i64 x11_52 ∧ v14 = .int .i64 x14_52 ∧ Aside0 (pilelaw1_PlacesApart.j3 kq t347 t349 t351 x11_52 t375 x14_52 t338 t339 x357000_25 x357001_25 = some r) ∧ Aside0 (kq ≤ kj36) ∧ Aside0 (Kd.R Kd.string 9 wc w.heap.size (fun _ => True) v352 t351) ∧ Aside0 (wc.heap[gb355]? = some (.cells #[.int .i64 t338, .int .i64 t339] 27 (0, 0))) ∧ Aside0 (wc.heap[gb356]? = some (.cells #[.int .i64 x357000_25, .int .i64 x357001_25] 27 (0, 0))) ∧ Aside0 (Below w.heap.size w wc))
                case first =>
                  have H := HC53.out; clear HC53; replace H := Option.bind_eq_some_iff.mp H; obtain ⟨⟨t376, t377⟩, A600, H⟩ := H; replace H : (pilelaw1_PlacesApart.j3 kj36 t347 t349 t351 t377 t375 t376 t338 t339 x357000_25 x357001_25) = some r := H; have A60 := Aside0.mk A600; clear A600
                  as_aux_lemma =>
                    have H' := Aside0.mk H; clear H; have hnb61 := NB355_356.out; have hnc61 := NB356_355.out; have hcz62_0 : w57.cell? ⟨gb355, 0, none⟩ = some (.int .i64 t338) := (blk_cell BK355.out 0).trans rfl; have hcz62_1 : w57.cell? ⟨gb355, 1, none⟩ = some (.int .i64 t339) := (blk_cell BK355.out 1).trans rfl; have hfz62_0 := blk_frozen BK355.out 0; have hfz62_1 := blk_frozen BK355.out 1; have hcz63_0 : w57.cell? ⟨gb356, 0, none⟩ = some (.int .i64 x357000_25) := (blk_cell BK356.out 0).trans rfl; have hcz63_1 : w57.cell? ⟨gb356, 1, none⟩ = some (.int .i64 x357001_25) := (blk_cell BK356.out 1).trans rfl; have hfz63_0 := blk_frozen BK356.out 0; have hfz63_1 := blk_frozen BK356.out 1
                    go_wp2_with (first | ((with_reducible refine gate_callee (f := 35) rfl ?_); refine goesL_ (some 89) rfl rfl Try.func35 (by kernel_rfl) rfl #[.agg #[.int .i64 t338, .int .i64 t339], .agg #[.int .i64 x357000_25, .int .i64 x357001_25]] rfl (by (try simp only [List.map_toArray, List.map_cons, List.map_nil]); first | done | rfl | (simp only [List.length_drop, List.length_take]; rfl)) ?_; (with_reducible refine (place_Distance.calls kj36 t338 t339 x357000_25 x357001_25 t376 t377 _ A60.out).mono ?_); rintro e w64 ⟨rfl, hb⟩; refine ⟨_, rfl, ?_⟩; have n0_ := Aside0.mk (Kd.R_below (Kd.R_up HO_8.out) hb); have n1_ := Aside0.mk (Kd.R_below (Kd.R_up HO374.out) hb); have n2_ := Aside0.mk (blk_below (g := gb355) (o := .cells #[.int .i64 t338, .int .i64 t339] 27 (0, 0)) (blk_up BK355.out) hb); have n3_ := Aside0.mk (blk_below (g := gb356) (o := .cells #[.int .i64 x357000_25, .int .i64 x357001_25] 27 (0, 0)) (blk_up BK356.out) hb); have n4_ := Aside0.mk (below_step (by repeat (first | (with_reducible first | exact HB.out | apply below_alloc | apply pw_below_drewN | apply below_drew1 | refine below_set ?_ GE355.out | refine below_set ?_ GE356.out) | exact HB.out)) hb); clear HO_8; clear HO374; clear BK355; clear BK356; clear HB; have HO_8 := n0_; have HO374 := n1_; have BK355 := n2_; have BK356 := n3_; have HB := n4_; clear n0_ n1_ n2_ n3_ n4_; (try clear hb); (try clear hb2); (try clear hk); (try clear hi)))
                    go_meet
                    case rel => exact ⟨_, (t377), (t376), (by first | rfl | (simp; done) | (simp [*]; done)), (by first | rfl | (simp; done) | (simp [*]; done)), H', ⟨by have := HJ6.out; have := HJ25.out; have := HJ36.out; first | omega | exact Nat.le_refl _⟩, ⟨by (with_reducible repeat (first | apply Kd.R_alloc | apply Kd.R_drewN | apply Kd.R_drew)); exact HO_8.out⟩, ⟨by (with_reducible repeat (first | refine blk_drewN ?_ _ | refine blk_drew ?_ | refine blk_alloc ?_ _)); exact BK355.out⟩, ⟨by (with_reducible repeat (first | refine blk_drewN ?_ _ | refine blk_drew ?_ | refine blk_alloc ?_ _)); exact BK356.out⟩, ⟨by repeat (first | (with_reducible first | exact HB.out | apply below_alloc | apply pw_below_drewN | apply below_drew1 | refine below_set ?_ GE355.out | refine below_set ?_ GE356.out) | exact HB.out)⟩⟩
                case rest =>
                  clear HC53
                  try clear c1
                  try clear c2
                  try clear p2
                  try clear c3
                  try clear c4
                  try clear c5
                  try clear c6
                  try clear c8
                  try clear c9
                  try clear c14
                  try clear c15
                  try clear c16
                  try clear c19
                  try clear c20
                  try clear c22
                  try clear c27
                  try clear c28
                  try clear c29
                  try clear c30
                  try clear c31
                  try clear c32
                  try clear c33
                  try clear c35
                  try clear c43
                  try clear c43b0
                  try clear c43b1
                  try clear c44
                  try clear c44b0
                  try clear c44b1
                  try clear c46
                  try clear c46b0
                  try clear c46b1
                  try clear c49
                  try clear c61
                  try clear hcz21_0
                  try clear hcz21_1
                  try clear hcz23_0
                  try clear hcz23_1
                  try clear hcz30_0
                  try clear hcz30_1
                  try clear hcz32_0
                  try clear hcz32_1
                  try clear hcz62_0
                  try clear hcz62_1
                  try clear hcz63_0
                  try clear hcz63_1
                  try clear hfz21_0
                  try clear hfz21_1
                  try clear hfz23_0
                  try clear hfz23_1
                  try clear hfz30_0
                  try clear hfz30_1
                  try clear hfz32_0
                  try clear hfz32_1
                  try clear hfz62_0
                  try clear hfz62_1
                  try clear hfz63_0
                  try clear hfz63_1
                  try clear p2
                  obtain ⟨kq, x11_52, x14_52, rfl, rfl, HA, HJ52, HO_8, BK355, BK356, HB⟩ := hcut
                  cases kq with
                  | zero => exact absurd HA.out (by simp [pilelaw1_PlacesApart.j3])
                  | succ kj52 =>
                    have H := HA.out; clear HA
                    simp only [pilelaw1_PlacesApart.j3] at H
                    replace H := Option.bind_eq_some_iff.mp H; obtain ⟨⟨t378, t379⟩, A650, H⟩ := H; (replace H : ((place_Way.f kj52 t338 t339 x357000_25 x357001_25 t347).bind fun bt380 => ((pileref1_SpanFault.f t347 1 1000).bind fun t384 => ((api_Errno.f kj52 (([t375, t384] : List Int))).bind fun t388 => (if t375 = 0 then ((pileref1_DistanceOf.f kj52 t338 t339 x357000_25 x357001_25).bind fun t389 => ((pileref1_WindOf.f kj52 t338 t339 x357000_25 x357001_25).bind fun t390 => ((pileref1_NoneFault.f (decide (t390 < 0))).bind fun t391 => (pilelaw1_PlacesApart.j4 kj52 t347 t349 t351 x11_52 t375 x14_52 t378 t379 bt380.1 bt380.2 t389 (mx t390 0) t391 t388 ([] : List (S27)) t338 t339 x357000_25 x357001_25)))) else (pilelaw1_PlacesApart.j4 kj52 t347 t349 t351 x11_52 t375 x14_52 t378 t379 bt380.1 bt380.2 0 0 t375 t388 ([] : List (S27)) t338 t339 x357000_25 x357001_25))))) = some r := H); have A65 := Aside0.mk A650; clear A650; replace H := Option.bind_eq_some_iff.mp H; obtain ⟨⟨t380, t383⟩, A660, H⟩ := H; (replace H : ((pileref1_SpanFault.f t347 1 1000).bind fun t384 => ((api_Errno.f kj52 (([t375, t384] : List Int))).bind fun t388 => (if t375 = 0 then ((pileref1_DistanceOf.f kj52 t338 t339 x357000_25 x357001_25).bind fun t389 => ((pileref1_WindOf.f kj52 t338 t339 x357000_25 x357001_25).bind fun t390 => ((pileref1_NoneFault.f (decide (t390 < 0))).bind fun t391 => (pilelaw1_PlacesApart.j4 kj52 t347 t349 t351 x11_52 t375 x14_52 t378 t379 t380 t383 t389 (mx t390 0) t391 t388 ([] : List (S27)) t338 t339 x357000_25 x357001_25)))) else (pilelaw1_PlacesApart.j4 kj52 t347 t349 t351 x11_52 t375 x14_52 t378 t379 t380 t383 0 0 t375 t388 ([] : List (S27)) t338 t339 x357000_25 x357001_25)))) = some r := H); have A66 := Aside0.mk A660; clear A660; replace H := Option.bind_eq_some_iff.mp H; obtain ⟨t384, A670, H⟩ := H; (replace H : ((api_Errno.f kj52 (([t375, t384] : List Int))).bind fun t388 => (if t375 = 0 then ((pileref1_DistanceOf.f kj52 t338 t339 x357000_25 x357001_25).bind fun t389 => ((pileref1_WindOf.f kj52 t338 t339 x357000_25 x357001_25).bind fun t390 => ((pileref1_NoneFault.f (decide (t390 < 0))).bind fun t391 => (pilelaw1_PlacesApart.j4 kj52 t347 t349 t351 x11_52 t375 x14_52 t378 t379 t380 t383 t389 (mx t390 0) t391 t388 ([] : List (S27)) t338 t339 x357000_25 x357001_25)))) else (pilelaw1_PlacesApart.j4 kj52 t347 t349 t351 x11_52 t375 x14_52 t378 t379 t380 t383 0 0 t375 t388 ([] : List (S27)) t338 t339 x357000_25 x357001_25))) = some r := H); have A67 := Aside0.mk A670; clear A670; obtain ⟨y385, hy385⟩ : ∃ y_ : List Int, y_ = (([t375, t384] : List Int)) := ⟨_, rfl⟩; (replace H : ((api_Errno.f kj52 y385).bind fun t388 => (if t375 = 0 then ((pileref1_DistanceOf.f kj52 t338 t339 x357000_25 x357001_25).bind fun t389 => ((pileref1_WindOf.f kj52 t338 t339 x357000_25 x357001_25).bind fun t390 => ((pileref1_NoneFault.f (decide (t390 < 0))).bind fun t391 => (pilelaw1_PlacesApart.j4 kj52 t347 t349 t351 x11_52 t375 x14_52 t378 t379 t380 t383 t389 (mx t390 0) t391 t388 ([] : List (S27)) t338 t339 x357000_25 x357001_25)))) else (pilelaw1_PlacesApart.j4 kj52 t347 t349 t351 x11_52 t375 x14_52 t378 t379 t380 t383 0 0 t375 t388 ([] : List (S27)) t338 t339 x357000_25 x357001_25))) = some r := by first | (rw [hy385]; with_reducible exact H) | (have H2_ := (Option.bind_some _ _).symm.trans H; rw [hy385]; with_reducible exact H2_) | (have H2_ := (Option.bind_some _ _).symm.trans H; with_reducible exact H2_) | with_reducible exact H | (rw [hy385]; exact H) | exact H); have Ny385 := Aside0.mk hy385; clear hy385; replace H := Option.bind_eq_some_iff.mp H; obtain ⟨t388, A680, H⟩ := H; (replace H : (if t375 = 0 then ((pileref1_DistanceOf.f kj52 t338 t339 x357000_25 x357001_25).bind fun t389 => ((pileref1_WindOf.f kj52 t338 t339 x357000_25 x357001_25).bind fun t390 => ((pileref1_NoneFault.f (decide (t390 < 0))).bind fun t391 => (pilelaw1_PlacesApart.j4 kj52 t347 t349 t351 x11_52 t375 x14_52 t378 t379 t380 t383 t389 (mx t390 0) t391 t388 ([] : List (S27)) t338 t339 x357000_25 x357001_25)))) else (pilelaw1_PlacesApart.j4 kj52 t347 t349 t351 x11_52 t375 x14_52 t378 t379 t380 t383 0 0 t375 t388 ([] : List (S27)) t338 t339 x357000_25 x357001_25)) = some r := H); have A68 := Aside0.mk A680; clear A680; have HC69 := Aside0.mk H; clear H; have hnb70 := NB355_356.out; have hnc70 := NB356_355.out; have hcz71_0 : wc.cell? ⟨gb355, 0, none⟩ = some (.int .i64 t338) := (blk_cell BK355.out 0).trans rfl; have hcz71_1 : wc.cell? ⟨gb355, 1, none⟩ = some (.int .i64 t339) := (blk_cell BK355.out 1).trans rfl; have hfz71_0 := blk_frozen BK355.out 0; have hfz71_1 := blk_frozen BK355.out 1; have hcz72_0 : wc.cell? ⟨gb356, 0, none⟩ = some (.int .i64 x357000_25) := (blk_cell BK356.out 0).trans rfl; have hcz72_1 : wc.cell? ⟨gb356, 1, none⟩ = some (.int .i64 x357001_25) := (blk_cell BK356.out 1).trans rfl; have hfz72_0 := blk_frozen BK356.out 0; have hfz72_1 := blk_frozen BK356.out 1
                    go_upto_if 112 with (first | ((with_reducible refine gate_callee (f := 36) rfl ?_); refine goesL_ (some 95) rfl rfl Try.func36 (by kernel_rfl) rfl #[.agg #[.int .i64 t338, .int .i64 t339], .agg #[.int .i64 x357000_25, .int .i64 x357001_25]] rfl (by (try simp only [List.map_toArray, List.map_cons, List.map_nil]); first | done | rfl | (simp only [List.length_drop, List.length_take]; rfl)) ?_; (with_reducible refine (place_Wind.calls kj52 t338 t339 x357000_25 x357001_25 t378 t379 _ A65.out).mono ?_); rintro e w73 ⟨rfl, hb⟩; refine ⟨_, rfl, ?_⟩; have n0_ := Aside0.mk (Kd.R_below (Kd.R_up HO_8.out) hb); have n1_ := Aside0.mk (blk_below (g := gb355) (o := .cells #[.int .i64 t338, .int .i64 t339] 27 (0, 0)) (blk_up BK355.out) hb); have n2_ := Aside0.mk (blk_below (g := gb356) (o := .cells #[.int .i64 x357000_25, .int .i64 x357001_25] 27 (0, 0)) (blk_up BK356.out) hb); have n3_ := Aside0.mk (below_step (by repeat (first | (with_reducible first | exact HB.out | apply below_alloc | apply pw_below_drewN | apply below_drew1 | refine below_set ?_ GE355.out | refine below_set ?_ GE356.out) | exact HB.out)) hb); clear HO_8; clear BK355; clear BK356; clear HB; have HO_8 := n0_; have BK355 := n1_; have BK356 := n2_; have HB := n3_; clear n0_ n1_ n2_ n3_; (try clear hb); (try clear hb2); (try clear hk); (try clear hi); have hcz74_0 : w73.cell? ⟨gb355, 0, none⟩ = some (.int .i64 t338) := (blk_cell BK355.out 0).trans rfl; have hcz74_1 : w73.cell? ⟨gb355, 1, none⟩ = some (.int .i64 t339) := (blk_cell BK355.out 1).trans rfl; have hfz74_0 := blk_frozen BK355.out 0; have hfz74_1 := blk_frozen BK355.out 1; have hcz75_0 : w73.cell? ⟨gb356, 0, none⟩ = some (.int .i64 x357000_25) := (blk_cell BK356.out 0).trans rfl; have hcz75_1 : w73.cell? ⟨gb356, 1, none⟩ = some (.int .i64 x357001_25) := (blk_cell BK356.out 1).trans rfl; have hfz75_0 := blk_frozen BK356.out 0; have hfz75_1 := blk_frozen BK356.out 1) | ((with_reducible refine gate_callee (f := 37) rfl ?_); refine goesL_ (some 102) rfl rfl Try.func37 (by kernel_rfl) rfl #[.agg #[.int .i64 t338, .int .i64 t339], .agg #[.int .i64 x357000_25, .int .i64 x357001_25], .int .i64 t347] rfl (by (try simp only [List.map_toArray, List.map_cons, List.map_nil]); first | done | rfl | (simp only [List.length_drop, List.length_take]; rfl)) ?_; (with_reducible refine (place_Way.calls kj52 t338 t339 x357000_25 x357001_25 t347 t380 t383 _ A66.out).mono ?_); rintro e w76 ⟨v381, rfl, ho0, hb⟩; refine ⟨_, rfl, ?_⟩; have n0_ := Aside0.mk (Kd.R_below (Kd.R_up HO_8.out) hb); have n1_ := Aside0.mk (Kd.R_lower (Kd.R_newB (Kd.R_newB ho0 (g := gb355) (o := .cells #[.int .i64 t338, .int .i64 t339] 27 (0, 0)) (blk_up BK355.out)) (g := gb356) (o := .cells #[.int .i64 x357000_25, .int .i64 x357001_25] 27 (0, 0)) (blk_up BK356.out)) (below_size (by repeat (first | (with_reducible first | exact HB.out | apply below_alloc | apply pw_below_drewN | apply below_drew1 | refine below_set ?_ GE355.out | refine below_set ?_ GE356.out) | exact HB.out)))); have n2_ := Aside0.mk (blk_below (g := gb355) (o := .cells #[.int .i64 t338, .int .i64 t339] 27 (0, 0)) (blk_up BK355.out) hb); have n3_ := Aside0.mk (blk_below (g := gb356) (o := .cells #[.int .i64 x357000_25, .int .i64 x357001_25] 27 (0, 0)) (blk_up BK356.out) hb); have n4_ := Aside0.mk (below_step (by repeat (first | (with_reducible first | exact HB.out | apply below_alloc | apply pw_below_drewN | apply below_drew1 | refine below_set ?_ GE355.out | refine below_set ?_ GE356.out) | exact HB.out)) hb); clear HO_8; clear BK355; clear BK356; clear HB; have HO_8 := n0_; have HO382 := n1_; have BK355 := n2_; have BK356 := n3_; have HB := n4_; clear n0_ n1_ n2_ n3_ n4_; (try clear hb); (try clear hb2); (try clear hk); (try clear hi); (try clear ho0)) | ((with_reducible refine gate_callee (f := 16) rfl ?_); refine goesL_ (some 108) rfl rfl Try.func16 (by kernel_rfl) rfl #[.int .i64 t347, .int .i64 1, .int .i64 1000] rfl (by (try simp only [List.map_toArray, List.map_cons, List.map_nil]); first | done | rfl | (simp only [List.length_drop, List.length_take]; rfl)) ?_; (with_reducible refine (pileref1_SpanFault.calls t347 1 1000 t384 _ A67.out).mono ?_); rintro e w' ⟨rfl, ⟨nd, rfl⟩⟩; refine ⟨_, rfl, ?_⟩) | ((with_reducible refine gate_dst (N := 109) rfl ?_); refine Kd.R_lit (Kd.int .i64) _ 32 ?hg (N := 109) ?hd (xs := ([t375, t384] : List Int)) (inner := [.int .i64 t375, .int .i64 t384]) (ok := fun _ => True) (okp := fun _ => True) ?hr ?hp (fun _ hk => hk) trivial (Below.refl _ _) (Nat.le_refl _) (by simp) ?_; (case hd => rfl); (case hg => rfl); (case hr => first | (go_simp; done) | (go_simp; rfl)); (case hp => exact (Reps.one (show Kd.M (Kd.int .i64) _ _ _ t375 [.int .i64 t375] from rfl) (Reps.one (show Kd.M (Kd.int .i64) _ _ _ t384 [.int .i64 t384] from rfl) (Reps.none _ _)))); intro v386 w77 ho78 hb hg_ hnew_; clear hg_ hnew_; (first | rw [← Ny385.out] at ho78 | (simp only [Int.reduceToNat] at ho78; rw [← Ny385.out] at ho78)); have n0_ := Aside0.mk (Kd.R_below (Kd.R_up HO_8.out) hb); have n1_ := Aside0.mk (Kd.R_below (Kd.R_up HO382.out) hb); have n2_ := Aside0.mk (Kd.R_lower ho78 (below_size (by repeat (first | (with_reducible first | exact HB.out | apply below_alloc | apply pw_below_drewN | apply below_drew1 | refine below_set ?_ GE355.out | refine below_set ?_ GE356.out) | exact HB.out)))); have n3_ := Aside0.mk (blk_below (g := gb355) (o := .cells #[.int .i64 t338, .int .i64 t339] 27 (0, 0)) (blk_up BK355.out) hb); have n4_ := Aside0.mk (blk_below (g := gb356) (o := .cells #[.int .i64 x357000_25, .int .i64 x357001_25] 27 (0, 0)) (blk_up BK356.out) hb); have n5_ := Aside0.mk (below_step (by repeat (first | (with_reducible first | exact HB.out | apply below_alloc | apply pw_below_drewN | apply below_drew1 | refine below_set ?_ GE355.out | refine below_set ?_ GE356.out) | exact HB.out)) hb); clear HO_8; clear HO382; clear BK355; clear BK356; clear HB; have HO_8 := n0_; have HO382 := n1_; have HO387 := n2_; have BK355 := n3_; have BK356 := n4_; have HB := n5_; clear n0_ n1_ n2_ n3_ n4_ n5_; clear hb ho78; obtain ⟨Ao79, co79, eo79⟩ := Kd.R_slice HO387.out; subst eo79) | ((with_reducible refine gate_callee (f := 14) rfl ?_); refine goesL_ (some 110) rfl rfl Try.func14 (by kernel_rfl) rfl #[.slice Ao79 y385.length co79] rfl (by (try simp only [List.map_toArray, List.map_cons, List.map_nil]); first | done | rfl | (simp only [List.length_drop, List.length_take]; rfl)) ?_; (with_reducible refine (api_Errno.calls kj52 _ _ y385 t388 _ ?side1 ?side2 A68.out).mono ?_); (case side1 => repeat (first | exact (Kd.R_reads' HO387.out).2.2 | (with_reducible refine Kd.C_alloc ?_ _) | (with_reducible refine Kd.C_drewN ?_ _) | (with_reducible refine Kd.C_drew ?_))); (case side2 => exact (Kd.R_reads' HO387.out).2.1); rintro e w' ⟨rfl, ⟨nd, rfl⟩⟩; refine ⟨_, rfl, ?_⟩))
                    (try simp only [Act.put, List.setIfInBounds_toArray, List.set_cons_zero, List.set_cons_succ])
                    go_cut [19, 20, 21] (fun v19 v20 v21 wc => ∃ (kq : Nat) (x19_68 : Int) (x20_68 : Int) (x21_68 : Int), v19 = .int .i64 x19_68 ∧ v20 = .int .i64 x20_68 ∧ v21 = .int .i64 x21_68 ∧ Aside0 (pilelaw1_PlacesApart.j4 kq t347 t349 t351 x11_52 t375 x14_52 t378 t379 t380 t383 x19_68 x20_68 x21_68 t388 ([] : List (S27)) t338 t339 x357000_25 x357001_25 = some r) ∧ Aside0 (kq ≤ kj52) ∧ Aside0 (Kd.R Kd.string 9 wc w.heap.size (fun _ => True) v352 t351) ∧ Aside0 (Kd.R k27 27 wc w.heap.size (fun k_ => some k_ ≠ ((.slice none 0 0) : Value).ownBlock ∧ k_ ≠ gb355 ∧ k_ ≠ gb356) v381 t380) ∧ Aside0 (Kd.R k27 27 wc w.heap.size (fun k_ => some k_ ≠ (v381 : Value).ownBlock ∧ k_ ≠ gb355 ∧ k_ ≠ gb356) (.slice none 0 0) ([] : List (S27))) ∧ Aside0 (wc.heap[gb355]? = some (.cells #[.int .i64 t338, .int .i64 t339] 27 (0, 0))) ∧ Aside0 (wc.heap[gb356]? = some (.cells #[.int .i64 x357000_25, .int .i64 x357001_25] 27 (0, 0))) ∧ Aside0 (Below w.heap.size w wc))
                    case first =>
                      have H := HC69.out; clear HC69
                      by_cases c80 : t375 = 0
                      · rw [if_pos c80] at H
                        have c80b0 : (t375 == 0) = true := beq_iff_eq.mpr c80; have c80b1 : (t375 != 0) = false := bne_eq_false_iff_eq.mpr c80; clear c80
                        (first | rw [c80b0] | (simp only [i64_w, i32_w]; rw [c80b0]) | skip)
                        replace H := Option.bind_eq_some_iff.mp H; obtain ⟨t389, A810, H⟩ := H; (replace H : ((pileref1_WindOf.f kj52 t338 t339 x357000_25 x357001_25).bind fun t390 => ((pileref1_NoneFault.f (decide (t390 < 0))).bind fun t391 => (pilelaw1_PlacesApart.j4 kj52 t347 t349 t351 x11_52 t375 x14_52 t378 t379 t380 t383 t389 (mx t390 0) t391 t388 ([] : List (S27)) t338 t339 x357000_25 x357001_25))) = some r := H); have A81 := Aside0.mk A810; clear A810; replace H := Option.bind_eq_some_iff.mp H; obtain ⟨t390, A820, H⟩ := H; (replace H : ((pileref1_NoneFault.f (decide (t390 < 0))).bind fun t391 => (pilelaw1_PlacesApart.j4 kj52 t347 t349 t351 x11_52 t375 x14_52 t378 t379 t380 t383 t389 (mx t390 0) t391 t388 ([] : List (S27)) t338 t339 x357000_25 x357001_25)) = some r := H); have A82 := Aside0.mk A820; clear A820; replace H := Option.bind_eq_some_iff.mp H; obtain ⟨t391, A830, H⟩ := H; replace H : (pilelaw1_PlacesApart.j4 kj52 t347 t349 t351 x11_52 t375 x14_52 t378 t379 t380 t383 t389 (mx t390 0) t391 t388 ([] : List (S27)) t338 t339 x357000_25 x357001_25) = some r := H; have A83 := Aside0.mk A830; clear A830; obtain ⟨ji84, hji84⟩ : ∃ j_ : Int, (mx t390 0) = j_ := ⟨_, rfl⟩; (replace H : (pilelaw1_PlacesApart.j4 kj52 t347 t349 t351 x11_52 t375 x14_52 t378 t379 t380 t383 t389 ji84 t391 t388 ([] : List (S27)) t338 t339 x357000_25 x357001_25) = some r := by first | (rw [hji84] at H; exact H) | (simp only [hji84] at H ⊢; exact H))
                        (try rw [hji84] at A81)
                        (try rw [hji84] at A82)
                        (try rw [hji84] at A83)
                        (try (have hji84l : 0 ≤ ji84 := by (rw [← hji84]; unfold mx; (repeat' split) <;> omega))); (try (have hji84m : 0 ≤ ji84 := by omega)); have hji84_ : (if t390 < 0 then 0 else t390) = ji84 := hji84
                        as_aux_lemma =>
                          have H' := Aside0.mk H; clear H; have hnb85 := NB355_356.out; have hnc85 := NB356_355.out; have hcz86_0 : w77.cell? ⟨gb355, 0, none⟩ = some (.int .i64 t338) := (blk_cell BK355.out 0).trans rfl; have hcz86_1 : w77.cell? ⟨gb355, 1, none⟩ = some (.int .i64 t339) := (blk_cell BK355.out 1).trans rfl; have hfz86_0 := blk_frozen BK355.out 0; have hfz86_1 := blk_frozen BK355.out 1; have hcz87_0 : w77.cell? ⟨gb356, 0, none⟩ = some (.int .i64 x357000_25) := (blk_cell BK356.out 0).trans rfl; have hcz87_1 : w77.cell? ⟨gb356, 1, none⟩ = some (.int .i64 x357001_25) := (blk_cell BK356.out 1).trans rfl; have hfz87_0 := blk_frozen BK356.out 0; have hfz87_1 := blk_frozen BK356.out 1
                          go_wp2_with (first | ((with_reducible refine gate_callee (f := 38) rfl ?_); refine goesL_ (some 115) rfl rfl Try.func38 (by kernel_rfl) rfl #[.agg #[.int .i64 t338, .int .i64 t339], .agg #[.int .i64 x357000_25, .int .i64 x357001_25]] rfl (by (try simp only [List.map_toArray, List.map_cons, List.map_nil]); first | done | rfl | (simp only [List.length_drop, List.length_take]; rfl)) ?_; (with_reducible refine (pileref1_DistanceOf.calls kj52 t338 t339 x357000_25 x357001_25 t389 _ A81.out).mono ?_); rintro e w88 ⟨rfl, hb⟩; refine ⟨_, rfl, ?_⟩; have n0_ := Aside0.mk (Kd.R_below (Kd.R_up HO_8.out) hb); have n1_ := Aside0.mk (Kd.R_below (Kd.R_up HO382.out) hb); have n2_ := Aside0.mk (blk_below (g := gb355) (o := .cells #[.int .i64 t338, .int .i64 t339] 27 (0, 0)) (blk_up BK355.out) hb); have n3_ := Aside0.mk (blk_below (g := gb356) (o := .cells #[.int .i64 x357000_25, .int .i64 x357001_25] 27 (0, 0)) (blk_up BK356.out) hb); have n4_ := Aside0.mk (below_step (by repeat (first | (with_reducible first | exact HB.out | apply below_alloc | apply pw_below_drewN | apply below_drew1 | refine below_set ?_ GE355.out | refine below_set ?_ GE356.out) | exact HB.out)) hb); clear HO_8; clear HO382; clear BK355; clear BK356; clear HB; have HO_8 := n0_; have HO382 := n1_; have BK355 := n2_; have BK356 := n3_; have HB := n4_; clear n0_ n1_ n2_ n3_ n4_; (try clear hb); (try clear hb2); (try clear hk); (try clear hi); have hcz89_0 : w88.cell? ⟨gb355, 0, none⟩ = some (.int .i64 t338) := (blk_cell BK355.out 0).trans rfl; have hcz89_1 : w88.cell? ⟨gb355, 1, none⟩ = some (.int .i64 t339) := (blk_cell BK355.out 1).trans rfl; have hfz89_0 := blk_frozen BK355.out 0; have hfz89_1 := blk_frozen BK355.out 1; have hcz90_0 : w88.cell? ⟨gb356, 0, none⟩ = some (.int .i64 x357000_25) := (blk_cell BK356.out 0).trans rfl; have hcz90_1 : w88.cell? ⟨gb356, 1, none⟩ = some (.int .i64 x357001_25) := (blk_cell BK356.out 1).trans rfl; have hfz90_0 := blk_frozen BK356.out 0; have hfz90_1 := blk_frozen BK356.out 1) | ((with_reducible refine gate_callee (f := 39) rfl ?_); refine goesL_ (some 118) rfl rfl Try.func39 (by kernel_rfl) rfl #[.agg #[.int .i64 t338, .int .i64 t339], .agg #[.int .i64 x357000_25, .int .i64 x357001_25]] rfl (by (try simp only [List.map_toArray, List.map_cons, List.map_nil]); first | done | rfl | (simp only [List.length_drop, List.length_take]; rfl)) ?_; (with_reducible refine (pileref1_WindOf.calls kj52 t338 t339 x357000_25 x357001_25 t390 _ A82.out).mono ?_); rintro e w91 ⟨rfl, hb⟩; refine ⟨_, rfl, ?_⟩; have n0_ := Aside0.mk (Kd.R_below (Kd.R_up HO_8.out) hb); have n1_ := Aside0.mk (Kd.R_below (Kd.R_up HO382.out) hb); have n2_ := Aside0.mk (blk_below (g := gb355) (o := .cells #[.int .i64 t338, .int .i64 t339] 27 (0, 0)) (blk_up BK355.out) hb); have n3_ := Aside0.mk (blk_below (g := gb356) (o := .cells #[.int .i64 x357000_25, .int .i64 x357001_25] 27 (0, 0)) (blk_up BK356.out) hb); have n4_ := Aside0.mk (below_step (by repeat (first | (with_reducible first | exact HB.out | apply below_alloc | apply pw_below_drewN | apply below_drew1 | refine below_set ?_ GE355.out | refine below_set ?_ GE356.out) | exact HB.out)) hb); clear HO_8; clear HO382; clear BK355; clear BK356; clear HB; have HO_8 := n0_; have HO382 := n1_; have BK355 := n2_; have BK356 := n3_; have HB := n4_; clear n0_ n1_ n2_ n3_ n4_; (try clear hb); (try clear hb2); (try clear hk); (try clear hi)) | ((with_reducible refine gate_callee (f := 40) rfl ?_); refine goesL_ (some 121) rfl rfl Try.func40 (by kernel_rfl) rfl #[.bool (decide (t390 < 0))] rfl (by (try simp only [List.map_toArray, List.map_cons, List.map_nil]); first | done | rfl | (simp only [List.length_drop, List.length_take]; rfl)) ?_; (with_reducible refine (pileref1_NoneFault.calls (decide (t390 < 0)) t391 _ A83.out).mono ?_); rintro e w' ⟨rfl, ⟨nd, rfl⟩⟩; refine ⟨_, rfl, ?_⟩))
                          go_meet
                          case rel => exact ⟨_, (t389), (ji84), (t391), (by first | rfl | (simp; done) | (simp [*]; done)), (by first | rfl | (simp; done) | (simp only [← hji84] <;> (first | rfl | simp)) | (simp [*]; done)), (by first | rfl | (simp; done) | (simp [*]; done)), H', ⟨by have := HJ6.out; have := HJ25.out; have := HJ36.out; have := HJ52.out; first | omega | exact Nat.le_refl _⟩, ⟨by (with_reducible repeat (first | apply Kd.R_alloc | apply Kd.R_drewN | apply Kd.R_drew)); exact HO_8.out⟩, ⟨by (with_reducible repeat (first | apply Kd.R_alloc | apply Kd.R_drewN | apply Kd.R_drew)); exact Kd.R_mono HO382.out (fun _ hk => ⟨(by simp [Value.ownBlock]), ⟨hk.1.2, hk.2⟩⟩)⟩, ⟨by first | exact Kd.R_nil _ _ _ _ _ | exact Kd.N_nil _ _ _ _ _ | exact Kd.V_nil _ _ _ _ _ | exact Kd.Q_nil _ _ _ _ _ | exact Kd.S_nil _ _ _ _ _⟩, ⟨by (with_reducible repeat (first | refine blk_drewN ?_ _ | refine blk_drew ?_ | refine blk_alloc ?_ _)); exact BK355.out⟩, ⟨by (with_reducible repeat (first | refine blk_drewN ?_ _ | refine blk_drew ?_ | refine blk_alloc ?_ _)); exact BK356.out⟩, ⟨by repeat (first | (with_reducible first | exact HB.out | apply below_alloc | apply pw_below_drewN | apply below_drew1 | refine below_set ?_ GE355.out | refine below_set ?_ GE356.out) | exact HB.out)⟩⟩
                      · rw [if_neg c80] at H
                        have c80b0 : (t375 == 0) = false := beq_eq_false_iff_ne.mpr c80; have c80b1 : (t375 != 0) = true := bne_iff_ne.mpr c80
                        (first | rw [c80b0] | (simp only [i64_w, i32_w]; rw [c80b0]) | skip)
                        as_aux_lemma =>
                          have H' := Aside0.mk H; clear H
                          go_wp2
                          go_meet
                          case rel => exact ⟨_, (0), (0), (t375), (by first | rfl | (simp; done) | (simp [*]; done)), (by first | rfl | (simp; done) | (simp [*]; done)), (by first | rfl | (simp; done) | (simp [*]; done)), H', ⟨by have := HJ6.out; have := HJ25.out; have := HJ36.out; have := HJ52.out; first | omega | exact Nat.le_refl _⟩, ⟨by (with_reducible repeat (first | apply Kd.R_alloc | apply Kd.R_drewN | apply Kd.R_drew)); exact HO_8.out⟩, ⟨by (with_reducible repeat (first | apply Kd.R_alloc | apply Kd.R_drewN | apply Kd.R_drew)); exact Kd.R_mono HO382.out (fun _ hk => ⟨(by simp [Value.ownBlock]), ⟨hk.1.2, hk.2⟩⟩)⟩, ⟨by first | exact Kd.R_nil _ _ _ _ _ | exact Kd.N_nil _ _ _ _ _ | exact Kd.V_nil _ _ _ _ _ | exact Kd.Q_nil _ _ _ _ _ | exact Kd.S_nil _ _ _ _ _⟩, ⟨by (with_reducible repeat (first | refine blk_drewN ?_ _ | refine blk_drew ?_ | refine blk_alloc ?_ _)); exact BK355.out⟩, ⟨by (with_reducible repeat (first | refine blk_drewN ?_ _ | refine blk_drew ?_ | refine blk_alloc ?_ _)); exact BK356.out⟩, ⟨by repeat (first | (with_reducible first | exact HB.out | apply below_alloc | apply pw_below_drewN | apply below_drew1 | refine below_set ?_ GE355.out | refine below_set ?_ GE356.out) | exact HB.out)⟩⟩
                    case rest =>
                      clear HC69
                      try clear c1
                      try clear c2
                      try clear p2
                      try clear c3
                      try clear c4
                      try clear c5
                      try clear c6
                      try clear c7
                      try clear c8
                      try clear c9
                      try clear c14
                      try clear c15
                      try clear c16
                      try clear c19
                      try clear c20
                      try clear c22
                      try clear c27
                      try clear c28
                      try clear c29
                      try clear c30
                      try clear c31
                      try clear c32
                      try clear c33
                      try clear c35
                      try clear c36
                      try clear c37
                      try clear c38
                      try clear c39
                      try clear c40
                      try clear c43
                      try clear c43b0
                      try clear c43b1
                      try clear c44
                      try clear c44b0
                      try clear c44b1
                      try clear c46
                      try clear c46b0
                      try clear c46b1
                      try clear c49
                      try clear c61
                      try clear c70
                      try clear c80
                      try clear c80b0
                      try clear c80b1
                      try clear c85
                      try clear hcz21_0
                      try clear hcz21_1
                      try clear hcz23_0
                      try clear hcz23_1
                      try clear hcz30_0
                      try clear hcz30_1
                      try clear hcz32_0
                      try clear hcz32_1
                      try clear hcz62_0
                      try clear hcz62_1
                      try clear hcz63_0
                      try clear hcz63_1
                      try clear hcz71_0
                      try clear hcz71_1
                      try clear hcz72_0
                      try clear hcz72_1
                      try clear hcz74_0
                      try clear hcz74_1
                      try clear hcz75_0
                      try clear hcz75_1
                      try clear hcz86_0
                      try clear hcz86_1
                      try clear hcz87_0
                      try clear hcz87_1
                      try clear hcz89_0
                      try clear hcz89_1
                      try clear hcz90_0
                      try clear hcz90_1
                      try clear hfz21_0
                      try clear hfz21_1
                      try clear hfz23_0
                      try clear hfz23_1
                      try clear hfz30_0
                      try clear hfz30_1
                      try clear hfz32_0
                      try clear hfz32_1
                      try clear hfz62_0
                      try clear hfz62_1
                      try clear hfz63_0
                      try clear hfz63_1
                      try clear hfz71_0
                      try clear hfz71_1
                      try clear hfz72_0
                      try clear hfz72_1
                      try clear hfz74_0
                      try clear hfz74_1
                      try clear hfz75_0
                      try clear hfz75_1
                      try clear hfz86_0
                      try clear hfz86_1
                      try clear hfz87_0
                      try clear hfz87_1
                      try clear hfz89_0
                      try clear hfz89_1
                      try clear hfz90_0
                      try clear hfz90_1
                      try clear p2
                      obtain ⟨kq, x19_68, x20_68, x21_68, rfl, rfl, rfl, HA, HJ68, HO_8, HO_17, HO_23, BK355, BK356, HB⟩ := hcut
                      cases kq with
                      | zero => exact absurd HA.out (by simp [pilelaw1_PlacesApart.j4])
                      | succ kj68 =>
                        have H := HA.out; clear HA
                        simp only [pilelaw1_PlacesApart.j4] at H
                        have HC92 := Aside0.mk H; clear H
                        go_upto_if 125 with (fail)
                        go_cut [23] (fun v23 wc => ∃ (kq : Nat) (x23_91 : List (S27)), Aside0 (pilelaw1_PlacesApart.j5 kq t349 t351 x11_52 t375 x14_52 t378 t379 t380 t383 x19_68 x20_68 x21_68 t388 x23_91 = some r) ∧ Aside0 (kq ≤ kj68) ∧ Aside0 (Kd.R Kd.string 9 wc w.heap.size (fun _ => True) v352 t351) ∧ Aside0 (Kd.R k27 27 wc w.heap.size (fun k_ => some k_ ≠ (v23 : Value).ownBlock ∧ k_ ≠ gb355 ∧ k_ ≠ gb356) v381 t380) ∧ Aside0 (Kd.R k27 27 wc w.heap.size (fun k_ => some k_ ≠ (v381 : Value).ownBlock ∧ k_ ≠ gb355 ∧ k_ ≠ gb356) v23 x23_91) ∧ Aside0 (wc.heap[gb355]? = some (.cells #[.int .i64 t338, .int .i64 t339] 27 (0, 0))) ∧ Aside0 (wc.heap[gb356]? = some (.cells #[.int .i64 x357000_25, .int .i64 x357001_25] 27 (0, 0))) ∧ Aside0 (Below w.heap.size w wc))
                        case first =>
                          have H := HC92.out; clear HC92
                          by_cases c93 : t388 = 0
                          · rw [if_pos c93] at H
                            have c93b0 : (t388 == 0) = true := beq_iff_eq.mpr c93; have c93b1 : (t388 != 0) = false := bne_eq_false_iff_eq.mpr c93; clear c93
                            (first | rw [c93b0] | (simp only [i64_w, i32_w]; rw [c93b0]) | skip)
                            replace H := Option.bind_eq_some_iff.mp H; obtain ⟨t392, A940, H⟩ := H; replace H : (pilelaw1_PlacesApart.j5 kj68 t349 t351 x11_52 t375 x14_52 t378 t379 t380 t383 x19_68 x20_68 x21_68 t388 t392) = some r := H; have A94 := Aside0.mk A940; clear A940
                            as_aux_lemma =>
                              have H' := Aside0.mk H; clear H; have hnb95 := NB355_356.out; have hnc95 := NB356_355.out; have hcz96_0 : wc.cell? ⟨gb355, 0, none⟩ = some (.int .i64 t338) := (blk_cell BK355.out 0).trans rfl; have hcz96_1 : wc.cell? ⟨gb355, 1, none⟩ = some (.int .i64 t339) := (blk_cell BK355.out 1).trans rfl; have hfz96_0 := blk_frozen BK355.out 0; have hfz96_1 := blk_frozen BK355.out 1; have hcz97_0 : wc.cell? ⟨gb356, 0, none⟩ = some (.int .i64 x357000_25) := (blk_cell BK356.out 0).trans rfl; have hcz97_1 : wc.cell? ⟨gb356, 1, none⟩ = some (.int .i64 x357001_25) := (blk_cell BK356.out 1).trans rfl; have hfz97_0 := blk_frozen BK356.out 0; have hfz97_1 := blk_frozen BK356.out 1
                              go_wp2_with (first | ((with_reducible refine gate_callee (f := 41) rfl ?_); refine goesL_ (some 129) rfl rfl Try.func41 (by kernel_rfl) rfl #[.agg #[.int .i64 t338, .int .i64 t339], .agg #[.int .i64 x357000_25, .int .i64 x357001_25], .int .i64 t347] rfl (by (try simp only [List.map_toArray, List.map_cons, List.map_nil]); first | done | rfl | (simp only [List.length_drop, List.length_take]; rfl)) ?_; (with_reducible refine (pileref1_WayOf.calls kj68 t338 t339 x357000_25 x357001_25 t347 t392 _ A94.out).mono ?_); rintro e w98 ⟨v393, rfl, ho0, hb⟩; refine ⟨_, rfl, ?_⟩; have n0_ := Aside0.mk (Kd.R_below (Kd.R_up HO_8.out) hb); have n1_ := Aside0.mk (Kd.R_elder' (Kd.R_up HO_17.out) (Kd.R_base ho0) hb); have n2_ := Aside0.mk (Kd.R_elder' (Kd.R_up HO_23.out) (Kd.R_base ho0) hb); have n3_ := Aside0.mk (Kd.R_lower (Kd.R_newB (Kd.R_newB (Kd.R_new' (Kd.R_new' ho0 (Kd.R_lt (Kd.R_up HO_17.out))) (Kd.R_lt (Kd.R_up HO_23.out))) (g := gb355) (o := .cells #[.int .i64 t338, .int .i64 t339] 27 (0, 0)) (blk_up BK355.out)) (g := gb356) (o := .cells #[.int .i64 x357000_25, .int .i64 x357001_25] 27 (0, 0)) (blk_up BK356.out)) (below_size (by repeat (first | (with_reducible first | exact HB.out | apply below_alloc | apply pw_below_drewN | apply below_drew1 | refine below_set ?_ GE355.out | refine below_set ?_ GE356.out) | exact HB.out)))); have n4_ := Aside0.mk (blk_below (g := gb355) (o := .cells #[.int .i64 t338, .int .i64 t339] 27 (0, 0)) (blk_up BK355.out) hb); have n5_ := Aside0.mk (blk_below (g := gb356) (o := .cells #[.int .i64 x357000_25, .int .i64 x357001_25] 27 (0, 0)) (blk_up BK356.out) hb); have n6_ := Aside0.mk (below_step (by repeat (first | (with_reducible first | exact HB.out | apply below_alloc | apply pw_below_drewN | apply below_drew1 | refine below_set ?_ GE355.out | refine below_set ?_ GE356.out) | exact HB.out)) hb); clear HO_8; clear HO_17; clear HO_23; clear BK355; clear BK356; clear HB; have HO_8 := n0_; have HO_17 := n1_; have HO_23 := n2_; have HO394 := n3_; have BK355 := n4_; have BK356 := n5_; have HB := n6_; clear n0_ n1_ n2_ n3_ n4_ n5_ n6_; (try clear hb); (try clear hb2); (try clear hk); (try clear hi); (try clear ho0)))
                              go_meet
                              case rel => exact ⟨_, (t392), H', ⟨by have := HJ6.out; have := HJ25.out; have := HJ36.out; have := HJ52.out; have := HJ68.out; first | omega | exact Nat.le_refl _⟩, ⟨by (with_reducible repeat (first | apply Kd.R_alloc | apply Kd.R_drewN | apply Kd.R_drew)); exact HO_8.out⟩, ⟨by (with_reducible repeat (first | apply Kd.R_alloc | apply Kd.R_drewN | apply Kd.R_drew)); exact Kd.R_mono HO_17.out (fun _ hk => ⟨hk.2, ⟨hk.1.2.1, hk.1.2.2⟩⟩)⟩, ⟨by (with_reducible repeat (first | apply Kd.R_alloc | apply Kd.R_drewN | apply Kd.R_drew)); exact Kd.R_mono HO394.out (fun _ hk => ⟨hk.1.1.1.2, ⟨hk.1.2, hk.2⟩⟩)⟩, ⟨by (with_reducible repeat (first | refine blk_drewN ?_ _ | refine blk_drew ?_ | refine blk_alloc ?_ _)); exact BK355.out⟩, ⟨by (with_reducible repeat (first | refine blk_drewN ?_ _ | refine blk_drew ?_ | refine blk_alloc ?_ _)); exact BK356.out⟩, ⟨by repeat (first | (with_reducible first | exact HB.out | apply below_alloc | apply pw_below_drewN | apply below_drew1 | refine below_set ?_ GE355.out | refine below_set ?_ GE356.out) | exact HB.out)⟩⟩
                          · rw [if_neg c93] at H
                            have c93b0 : (t388 == 0) = false := beq_eq_false_iff_ne.mpr c93; have c93b1 : (t388 != 0) = true := bne_iff_ne.mpr c93
                            (first | rw [c93b0] | (simp only [i64_w, i32_w]; rw [c93b0]) | skip)
                            as_aux_lemma =>
                              have H' := Aside0.mk H; clear H
                              go_wp2
                              go_meet
                              case rel => exact ⟨_, (([] : List (S27))), H', ⟨by have := HJ6.out; have := HJ25.out; have := HJ36.out; have := HJ52.out; have := HJ68.out; first | omega | exact Nat.le_refl _⟩, ⟨by (with_reducible repeat (first | apply Kd.R_alloc | apply Kd.R_drewN | apply Kd.R_drew)); exact HO_8.out⟩, ⟨by (with_reducible repeat (first | apply Kd.R_alloc | apply Kd.R_drewN | apply Kd.R_drew)); exact HO_17.out⟩, ⟨by (with_reducible repeat (first | apply Kd.R_alloc | apply Kd.R_drewN | apply Kd.R_drew)); exact HO_23.out⟩, ⟨by (with_reducible repeat (first | refine blk_drewN ?_ _ | refine blk_drew ?_ | refine blk_alloc ?_ _)); exact BK355.out⟩, ⟨by (with_reducible repeat (first | refine blk_drewN ?_ _ | refine blk_drew ?_ | refine blk_alloc ?_ _)); exact BK356.out⟩, ⟨by repeat (first | (with_reducible first | exact HB.out | apply below_alloc | apply pw_below_drewN | apply below_drew1 | refine below_set ?_ GE355.out | refine below_set ?_ GE356.out) | exact HB.out)⟩⟩
                        case rest =>
                          clear HC92
                          try clear c1
                          try clear c2
                          try clear p2
                          try clear c3
                          try clear c4
                          try clear c5
                          try clear c6
                          try clear c7
                          try clear c8
                          try clear c9
                          try clear c14
                          try clear c15
                          try clear c16
                          try clear c19
                          try clear c20
                          try clear c22
                          try clear c27
                          try clear c28
                          try clear c29
                          try clear c30
                          try clear c31
                          try clear c32
                          try clear c33
                          try clear c35
                          try clear c36
                          try clear c37
                          try clear c38
                          try clear c39
                          try clear c40
                          try clear c41
                          try clear c43
                          try clear c43b0
                          try clear c43b1
                          try clear c44
                          try clear c44b0
                          try clear c44b1
                          try clear c46
                          try clear c46b0
                          try clear c46b1
                          try clear c49
                          try clear c61
                          try clear c70
                          try clear c80
                          try clear c80b0
                          try clear c80b1
                          try clear c85
                          try clear c93
                          try clear c93b0
                          try clear c93b1
                          try clear c95
                          try clear hcz21_0
                          try clear hcz21_1
                          try clear hcz23_0
                          try clear hcz23_1
                          try clear hcz30_0
                          try clear hcz30_1
                          try clear hcz32_0
                          try clear hcz32_1
                          try clear hcz62_0
                          try clear hcz62_1
                          try clear hcz63_0
                          try clear hcz63_1
                          try clear hcz71_0
                          try clear hcz71_1
                          try clear hcz72_0
                          try clear hcz72_1
                          try clear hcz74_0
                          try clear hcz74_1
                          try clear hcz75_0
                          try clear hcz75_1
                          try clear hcz86_0
                          try clear hcz86_1
                          try clear hcz87_0
                          try clear hcz87_1
                          try clear hcz89_0
                          try clear hcz89_1
                          try clear hcz90_0
                          try clear hcz90_1
                          try clear hcz96_0
                          try clear hcz96_1
                          try clear hcz97_0
                          try clear hcz97_1
                          try clear hfz21_0
                          try clear hfz21_1
                          try clear hfz23_0
                          try clear hfz23_1
                          try clear hfz30_0
                          try clear hfz30_1
                          try clear hfz32_0
                          try clear hfz32_1
                          try clear hfz62_0
                          try clear hfz62_1
                          try clear hfz63_0
                          try clear hfz63_1
                          try clear hfz71_0
                          try clear hfz71_1
                          try clear hfz72_0
                          try clear hfz72_1
                          try clear hfz74_0
                          try clear hfz74_1
                          try clear hfz75_0
                          try clear hfz75_1
                          try clear hfz86_0
                          try clear hfz86_1
                          try clear hfz87_0
                          try clear hfz87_1
                          try clear hfz89_0
                          try clear hfz89_1
                          try clear hfz90_0
                          try clear hfz90_1
                          try clear hfz96_0
                          try clear hfz96_1
                          try clear hfz97_0
                          try clear hfz97_1
                          try clear p2
                          obtain ⟨kq, x23_91, HA, HJ91, HO_8, HO_17, HO_23, BK355, BK356, HB⟩ := hcut
                          cases kq with
                          | zero => exact absurd HA.out (by simp [pilelaw1_PlacesApart.j5])
                          | succ kj91 =>
                            have H := HA.out; clear HA
                            simp only [pilelaw1_PlacesApart.j5] at H
                            have HC99 := Aside0.mk H; clear H
                            go_upto_region 24 with (fail)
                            go_cut [158] (fun v158 wc => ∃ (kq : Nat) (x158_98 : Bool), v158 = .bool x158_98 ∧ Aside0 (pilelaw1_PlacesApart.j6 kq t349 t351 x158_98 = some r) ∧ Aside0 (kq ≤ kj91) ∧ Aside0 (Kd.R Kd.string 9 wc w.heap.size (fun _ => True) v352 t351) ∧ Aside0 (wc.heap[gb355]? = some (.cells #[.int .i64 t338, .int .i64 t339] 27 (0, 0))) ∧ Aside0 (wc.heap[gb356]? = some (.cells #[.int .i64 x357000_25, .int .i64 x357001_25] 27 (0, 0))) ∧ Aside0 (Below w.heap.size w wc))
                            case first =>
                              have H := HC99.out; clear HC99
                              by_cases c100 : x11_52 = t375
                              · rw [if_pos c100] at H
                                have c100b0 : (x11_52 == t375) = true := beq_iff_eq.mpr c100; have c100b1 : (x11_52 != t375) = false := bne_eq_false_iff_eq.mpr c100; clear c100
                                (first | rw [c100b0] | (simp only [i64_w, i32_w]; rw [c100b0]) | skip)
                                by_cases c101 : x14_52 = x19_68
                                · rw [if_pos c101] at H
                                  have c101b0 : (x14_52 == x19_68) = true := beq_iff_eq.mpr c101; have c101b1 : (x14_52 != x19_68) = false := bne_eq_false_iff_eq.mpr c101; clear c101
                                  by_cases c102 : t379 = x21_68
                                  · rw [if_pos c102] at H
                                    have c102b0 : (t379 == x21_68) = true := beq_iff_eq.mpr c102; have c102b1 : (t379 != x21_68) = false := bne_eq_false_iff_eq.mpr c102; clear c102
                                    by_cases c103 : t378 = x20_68
                                    · rw [if_pos c103] at H
                                      have c103b0 : (t378 == x20_68) = true := beq_iff_eq.mpr c103; have c103b1 : (t378 != x20_68) = false := bne_eq_false_iff_eq.mpr c103; clear c103
                                      by_cases c104 : t383 = t388
                                      · rw [if_pos c104] at H
                                        have c104b0 : (t383 == t388) = true := beq_iff_eq.mpr c104; have c104b1 : (t383 != t388) = false := bne_eq_false_iff_eq.mpr c104; clear c104; replace H := Option.bind_eq_some_iff.mp H; obtain ⟨t395, A1050, H⟩ := H; replace H : (pilelaw1_PlacesApart.j6 kj91 t349 t351 (!t395)) = some r := H; have A105 := Aside0.mk A1050; clear A1050
                                        as_aux_lemma =>
                                          have H' := Aside0.mk H; clear H; obtain ⟨Ao106, co106, eo106⟩ := Kd.R_slice HO_17.out; subst eo106; obtain ⟨Ao107, co107, eo107⟩ := Kd.R_slice HO_23.out; subst eo107
                                          go_wp2_with (first | (go_at_call 42; (with_reducible refine (api_Site.calls kj91 _ _ t380 _ _ x23_91 t395 _ ?side1 ?side2 ?side3 ?side4 A105.out).mono ?_); (case side1 => repeat (first | exact (Kd.R_reads' HO_17.out).2.2 | (with_reducible refine Kd.C_alloc ?_ _) | (with_reducible refine Kd.C_drewN ?_ _) | (with_reducible refine Kd.C_drew ?_))); (case side2 => exact (Kd.R_reads' HO_17.out).2.1); (case side3 => repeat (first | exact (Kd.R_reads' HO_23.out).2.2 | (with_reducible refine Kd.C_alloc ?_ _) | (with_reducible refine Kd.C_drewN ?_ _) | (with_reducible refine Kd.C_drew ?_))); (case side4 => exact (Kd.R_reads' HO_23.out).2.1); rintro e w' ⟨rfl, ⟨nd, rfl⟩⟩))
                                          go_meet
                                          case rel => exact ⟨_, (!t395), (by first | rfl | (simp; done) | (simp [*]; done)), H', ⟨by have := HJ6.out; have := HJ25.out; have := HJ36.out; have := HJ52.out; have := HJ68.out; have := HJ91.out; first | omega | exact Nat.le_refl _⟩, ⟨by (with_reducible repeat (first | apply Kd.R_alloc | apply Kd.R_drewN | apply Kd.R_drew)); exact HO_8.out⟩, ⟨by (with_reducible repeat (first | refine blk_drewN ?_ _ | refine blk_drew ?_ | refine blk_alloc ?_ _)); exact BK355.out⟩, ⟨by (with_reducible repeat (first | refine blk_drewN ?_ _ | refine blk_drew ?_ | refine blk_alloc ?_ _)); exact BK356.out⟩, ⟨by repeat (first | (with_reducible first | exact HB.out | apply below_alloc | apply pw_below_drewN | apply below_drew1 | refine below_set ?_ GE355.out | refine below_set ?_ GE356.out) | exact HB.out)⟩⟩
                                      · rw [if_neg c104] at H
                                        have c104b0 : (t383 == t388) = false := beq_eq_false_iff_ne.mpr c104; have c104b1 : (t383 != t388) = true := bne_iff_ne.mpr c104
                                        as_aux_lemma =>
                                          have H' := Aside0.mk H; clear H
                                          go_wp2
                                          go_meet
                                          case rel => exact ⟨_, (true), (by first | rfl | (simp; done) | (simp [*]; done)), H', ⟨by have := HJ6.out; have := HJ25.out; have := HJ36.out; have := HJ52.out; have := HJ68.out; have := HJ91.out; first | omega | exact Nat.le_refl _⟩, ⟨by (with_reducible repeat (first | apply Kd.R_alloc | apply Kd.R_drewN | apply Kd.R_drew)); exact HO_8.out⟩, ⟨by (with_reducible repeat (first | refine blk_drewN ?_ _ | refine blk_drew ?_ | refine blk_alloc ?_ _)); exact BK355.out⟩, ⟨by (with_reducible repeat (first | refine blk_drewN ?_ _ | refine blk_drew ?_ | refine blk_alloc ?_ _)); exact BK356.out⟩, ⟨by repeat (first | (with_reducible first | exact HB.out | apply below_alloc | apply pw_below_drewN | apply below_drew1 | refine below_set ?_ GE355.out | refine below_set ?_ GE356.out) | exact HB.out)⟩⟩
                                    · rw [if_neg c103] at H
                                      have c103b0 : (t378 == x20_68) = false := beq_eq_false_iff_ne.mpr c103; have c103b1 : (t378 != x20_68) = true := bne_iff_ne.mpr c103
                                      as_aux_lemma =>
                                        have H' := Aside0.mk H; clear H
                                        go_wp2
                                        go_meet
                                        case rel => exact ⟨_, (true), (by first | rfl | (simp; done) | (simp [*]; done)), H', ⟨by have := HJ6.out; have := HJ25.out; have := HJ36.out; have := HJ52.out; have := HJ68.out; have := HJ91.out; first | omega | exact Nat.le_refl _⟩, ⟨by (with_reducible repeat (first | apply Kd.R_alloc | apply Kd.R_drewN | apply Kd.R_drew)); exact HO_8.out⟩, ⟨by (with_reducible repeat (first | refine blk_drewN ?_ _ | refine blk_drew ?_ | refine blk_alloc ?_ _)); exact BK355.out⟩, ⟨by (with_reducible repeat (first | refine blk_drewN ?_ _ | refine blk_drew ?_ | refine blk_alloc ?_ _)); exact BK356.out⟩, ⟨by repeat (first | (with_reducible first | exact HB.out | apply below_alloc | apply pw_below_drewN | apply below_drew1 | refine below_set ?_ GE355.out | refine below_set ?_ GE356.out) | exact HB.out)⟩⟩
                                  · rw [if_neg c102] at H
                                    have c102b0 : (t379 == x21_68) = false := beq_eq_false_iff_ne.mpr c102; have c102b1 : (t379 != x21_68) = true := bne_iff_ne.mpr c102
                                    as_aux_lemma =>
                                      have H' := Aside0.mk H; clear H
                                      go_wp2
                                      go_meet
                                      case rel => exact ⟨_, (true), (by first | rfl | (simp; done) | (simp [*]; done)), H', ⟨by have := HJ6.out; have := HJ25.out; have := HJ36.out; have := HJ52.out; have := HJ68.out; have := HJ91.out; first | omega | exact Nat.le_refl _⟩, ⟨by (with_reducible repeat (first | apply Kd.R_alloc | apply Kd.R_drewN | apply Kd.R_drew)); exact HO_8.out⟩, ⟨by (with_reducible repeat (first | refine blk_drewN ?_ _ | refine blk_drew ?_ | refine blk_alloc ?_ _)); exact BK355.out⟩, ⟨by (with_reducible repeat (first | refine blk_drewN ?_ _ | refine blk_drew ?_ | refine blk_alloc ?_ _)); exact BK356.out⟩, ⟨by repeat (first | (with_reducible first | exact HB.out | apply below_alloc | apply pw_below_drewN | apply below_drew1 | refine below_set ?_ GE355.out | refine below_set ?_ GE356.out) | exact HB.out)⟩⟩
                                · rw [if_neg c101] at H
                                  have c101b0 : (x14_52 == x19_68) = false := beq_eq_false_iff_ne.mpr c101; have c101b1 : (x14_52 != x19_68) = true := bne_iff_ne.mpr c101
                                  as_aux_lemma =>
                                    have H' := Aside0.mk H; clear H
                                    go_wp2
                                    go_meet
                                    case rel => exact ⟨_, (true), (by first | rfl | (simp; done) | (simp [*]; done)), H', ⟨by have := HJ6.out; have := HJ25.out; have := HJ36.out; have := HJ52.out; have := HJ68.out; have := HJ91.out; first | omega | exact Nat.le_refl _⟩, ⟨by (with_reducible repeat (first | apply Kd.R_alloc | apply Kd.R_drewN | apply Kd.R_drew)); exact HO_8.out⟩, ⟨by (with_reducible repeat (first | refine blk_drewN ?_ _ | refine blk_drew ?_ | refine blk_alloc ?_ _)); exact BK355.out⟩, ⟨by (with_reducible repeat (first | refine blk_drewN ?_ _ | refine blk_drew ?_ | refine blk_alloc ?_ _)); exact BK356.out⟩, ⟨by repeat (first | (with_reducible first | exact HB.out | apply below_alloc | apply pw_below_drewN | apply below_drew1 | refine below_set ?_ GE355.out | refine below_set ?_ GE356.out) | exact HB.out)⟩⟩
                              · rw [if_neg c100] at H
                                have c100b0 : (x11_52 == t375) = false := beq_eq_false_iff_ne.mpr c100; have c100b1 : (x11_52 != t375) = true := bne_iff_ne.mpr c100
                                (first | rw [c100b0] | (simp only [i64_w, i32_w]; rw [c100b0]) | skip)
                                as_aux_lemma =>
                                  have H' := Aside0.mk H; clear H
                                  go_wp2
                                  go_meet
                                  case rel => exact ⟨_, (true), (by first | rfl | (simp; done) | (simp [*]; done)), H', ⟨by have := HJ6.out; have := HJ25.out; have := HJ36.out; have := HJ52.out; have := HJ68.out; have := HJ91.out; first | omega | exact Nat.le_refl _⟩, ⟨by (with_reducible repeat (first | apply Kd.R_alloc | apply Kd.R_drewN | apply Kd.R_drew)); exact HO_8.out⟩, ⟨by (with_reducible repeat (first | refine blk_drewN ?_ _ | refine blk_drew ?_ | refine blk_alloc ?_ _)); exact BK355.out⟩, ⟨by (with_reducible repeat (first | refine blk_drewN ?_ _ | refine blk_drew ?_ | refine blk_alloc ?_ _)); exact BK356.out⟩, ⟨by repeat (first | (with_reducible first | exact HB.out | apply below_alloc | apply pw_below_drewN | apply below_drew1 | refine below_set ?_ GE355.out | refine below_set ?_ GE356.out) | exact HB.out)⟩⟩
                            case rest =>
                              clear HC99
                              try clear c1
                              try clear c2
                              try clear p2
                              try clear c3
                              try clear c4
                              try clear c5
                              try clear c6
                              try clear c7
                              try clear c8
                              try clear c9
                              try clear c10
                              try clear c14
                              try clear c15
                              try clear c16
                              try clear c19
                              try clear c20
                              try clear c22
                              try clear c27
                              try clear c28
                              try clear c29
                              try clear c30
                              try clear c31
                              try clear c32
                              try clear c33
                              try clear c35
                              try clear c36
                              try clear c37
                              try clear c38
                              try clear c39
                              try clear c40
                              try clear c41
                              try clear c43
                              try clear c43b0
                              try clear c43b1
                              try clear c44
                              try clear c44b0
                              try clear c44b1
                              try clear c46
                              try clear c46b0
                              try clear c46b1
                              try clear c49
                              try clear c61
                              try clear c70
                              try clear c80
                              try clear c80b0
                              try clear c80b1
                              try clear c85
                              try clear c93
                              try clear c93b0
                              try clear c93b1
                              try clear c95
                              try clear c100
                              try clear c100b0
                              try clear c100b1
                              try clear c101
                              try clear c101b0
                              try clear c101b1
                              try clear c102
                              try clear c102b0
                              try clear c102b1
                              try clear c103
                              try clear c103b0
                              try clear c103b1
                              try clear c104
                              try clear c104b0
                              try clear c104b1
                              try clear hcz21_0
                              try clear hcz21_1
                              try clear hcz23_0
                              try clear hcz23_1
                              try clear hcz30_0
                              try clear hcz30_1
                              try clear hcz32_0
                              try clear hcz32_1
                              try clear hcz62_0
                              try clear hcz62_1
                              try clear hcz63_0
                              try clear hcz63_1
                              try clear hcz71_0
                              try clear hcz71_1
                              try clear hcz72_0
                              try clear hcz72_1
                              try clear hcz74_0
                              try clear hcz74_1
                              try clear hcz75_0
                              try clear hcz75_1
                              try clear hcz86_0
                              try clear hcz86_1
                              try clear hcz87_0
                              try clear hcz87_1
                              try clear hcz89_0
                              try clear hcz89_1
                              try clear hcz90_0
                              try clear hcz90_1
                              try clear hcz96_0
                              try clear hcz96_1
                              try clear hcz97_0
                              try clear hcz97_1
                              try clear hfz21_0
                              try clear hfz21_1
                              try clear hfz23_0
                              try clear hfz23_1
                              try clear hfz30_0
                              try clear hfz30_1
                              try clear hfz32_0
                              try clear hfz32_1
                              try clear hfz62_0
                              try clear hfz62_1
                              try clear hfz63_0
                              try clear hfz63_1
                              try clear hfz71_0
                              try clear hfz71_1
                              try clear hfz72_0
                              try clear hfz72_1
                              try clear hfz74_0
                              try clear hfz74_1
                              try clear hfz75_0
                              try clear hfz75_1
                              try clear hfz86_0
                              try clear hfz86_1
                              try clear hfz87_0
                              try clear hfz87_1
                              try clear hfz89_0
                              try clear hfz89_1
                              try clear hfz90_0
                              try clear hfz90_1
                              try clear hfz96_0
                              try clear hfz96_1
                              try clear hfz97_0
                              try clear hfz97_1
                              try clear p2
                              obtain ⟨kq, x158_98, rfl, HA, HJ98, HO_8, BK355, BK356, HB⟩ := hcut
                              cases kq with
                              | zero => exact absurd HA.out (by simp [pilelaw1_PlacesApart.j6])
                              | succ kj98 =>
                                have H := HA.out; clear HA
                                simp only [pilelaw1_PlacesApart.j6] at H
                                by_cases c108 : x158_98 = true
                                · subst c108
                                  (have H1 : (some false) = some r := by rw [if_pos rfl] at H; exact H); clear H; have H := H1; clear H1
                                  as_aux_lemma =>
                                    obtain rfl := Option.some.inj H
                                    go_wp2
                                    go_ret
                                    exact ⟨by first | rfl | (simp [errW_none, errW_some] <;> rfl) | (simp [*, errW_none, errW_some] <;> rfl), by repeat (first | (with_reducible first | exact HB.out | apply below_alloc | apply pw_below_drewN | apply below_drew1 | refine below_set ?_ GE355.out | refine below_set ?_ GE356.out) | exact HB.out)⟩
                                · replace c108 := Bool.eq_false_iff.mpr c108
                                  subst c108; (have H1 : ((place_Farthest.f kj98 t349 t351).bind fun bt396 => ((pileref1_LocatorFault.f t349).bind fun t399 => ((pileref1_NoneFault.f ((t351.length : Int) == 0)).bind fun t400 => ((pileref1_LocatorsFault.f kj98 t351).bind fun t401 => ((api_Errno.f kj98 (([t399, t400, t401] : List Int))).bind fun t405 => (pilelaw1_PlacesApart.j7 kj98 t349 t351 bt396.1 bt396.2.1 bt396.2.2 t405 (t405 != 0))))))) = some r := by rw [if_neg (show ¬ (false = true) by decide)] at H; exact H); clear H; have H := H1; clear H1; replace H := Option.bind_eq_some_iff.mp H; obtain ⟨⟨t396, t397, t398⟩, A1090, H⟩ := H; (replace H : ((pileref1_LocatorFault.f t349).bind fun t399 => ((pileref1_NoneFault.f ((t351.length : Int) == 0)).bind fun t400 => ((pileref1_LocatorsFault.f kj98 t351).bind fun t401 => ((api_Errno.f kj98 (([t399, t400, t401] : List Int))).bind fun t405 => (pilelaw1_PlacesApart.j7 kj98 t349 t351 t396 t397 t398 t405 (t405 != 0)))))) = some r := H); have A109 := Aside0.mk A1090; clear A1090; replace H := Option.bind_eq_some_iff.mp H; obtain ⟨t399, A1100, H⟩ := H; (replace H : ((pileref1_NoneFault.f ((t351.length : Int) == 0)).bind fun t400 => ((pileref1_LocatorsFault.f kj98 t351).bind fun t401 => ((api_Errno.f kj98 (([t399, t400, t401] : List Int))).bind fun t405 => (pilelaw1_PlacesApart.j7 kj98 t349 t351 t396 t397 t398 t405 (t405 != 0))))) = some r := H); have A110 := Aside0.mk A1100; clear A1100; replace H := Option.bind_eq_some_iff.mp H; obtain ⟨t400, A1110, H⟩ := H; (replace H : ((pileref1_LocatorsFault.f kj98 t351).bind fun t401 => ((api_Errno.f kj98 (([t399, t400, t401] : List Int))).bind fun t405 => (pilelaw1_PlacesApart.j7 kj98 t349 t351 t396 t397 t398 t405 (t405 != 0)))) = some r := H); have A111 := Aside0.mk A1110; clear A1110; replace H := Option.bind_eq_some_iff.mp H; obtain ⟨t401, A1120, H⟩ := H; (replace H : ((api_Errno.f kj98 (([t399, t400, t401] : List Int))).bind fun t405 => (pilelaw1_PlacesApart.j7 kj98 t349 t351 t396 t397 t398 t405 (t405 != 0))) = some r := H); have A112 := Aside0.mk A1120; clear A1120; obtain ⟨y402, hy402⟩ : ∃ y_ : List Int, y_ = (([t399, t400, t401] : List Int)) := ⟨_, rfl⟩; (replace H : ((api_Errno.f kj98 y402).bind fun t405 => (pilelaw1_PlacesApart.j7 kj98 t349 t351 t396 t397 t398 t405 (t405 != 0))) = some r := by first | (rw [hy402]; with_reducible exact H) | (have H2_ := (Option.bind_some _ _).symm.trans H; rw [hy402]; with_reducible exact H2_) | (have H2_ := (Option.bind_some _ _).symm.trans H; with_reducible exact H2_) | with_reducible exact H | (rw [hy402]; exact H) | exact H); have Ny402 := Aside0.mk hy402; clear hy402; replace H := Option.bind_eq_some_iff.mp H; obtain ⟨t405, A1130, H⟩ := H; replace H : (pilelaw1_PlacesApart.j7 kj98 t349 t351 t396 t397 t398 t405 (t405 != 0)) = some r := H; have A113 := Aside0.mk A1130; clear A1130; have HC114 := Aside0.mk H; clear H; obtain ⟨Ao115, co115, eo115⟩ := Kd.R_slice HO_8.out; subst eo115
                                  go_upto_region 28 with (first | ((with_reducible refine gate_callee (f := 43) rfl ?_); refine goesL_ (some 162) rfl rfl Try.func43 (by kernel_rfl) rfl #[.string t349, .slice Ao115 t351.length co115] rfl (by (try simp only [List.map_toArray, List.map_cons, List.map_nil]); first | done | rfl | (simp only [List.length_drop, List.length_take]; rfl)) ?_; (with_reducible refine (place_Farthest.calls kj98 t349 _ _ t351 t396 t397 t398 _ ?side1 ?side2 A109.out).mono ?_); (case side1 => repeat (first | exact (Kd.R_reads' HO_8.out).2.2 | (with_reducible refine Kd.C_alloc ?_ _) | (with_reducible refine Kd.C_drewN ?_ _) | (with_reducible refine Kd.C_drew ?_))); (case side2 => exact (Kd.R_reads' HO_8.out).2.1); rintro e w116 ⟨rfl, hb⟩; refine ⟨_, rfl, ?_⟩; have n0_ := Aside0.mk (Kd.R_below (Kd.R_up HO_8.out) hb); have n1_ := Aside0.mk (blk_below (g := gb355) (o := .cells #[.int .i64 t338, .int .i64 t339] 27 (0, 0)) (blk_up BK355.out) hb); have n2_ := Aside0.mk (blk_below (g := gb356) (o := .cells #[.int .i64 x357000_25, .int .i64 x357001_25] 27 (0, 0)) (blk_up BK356.out) hb); have n3_ := Aside0.mk (below_step (by repeat (first | (with_reducible first | exact HB.out | apply below_alloc | apply pw_below_drewN | apply below_drew1 | refine below_set ?_ GE355.out | refine below_set ?_ GE356.out) | exact HB.out)) hb); clear HO_8; clear BK355; clear BK356; clear HB; have HO_8 := n0_; have BK355 := n1_; have BK356 := n2_; have HB := n3_; clear n0_ n1_ n2_ n3_; (try clear hb); (try clear hb2); (try clear hk); (try clear hi)) | ((with_reducible refine gate_callee (f := 44) rfl ?_); refine goesL_ (some 167) rfl rfl Try.func44 (by kernel_rfl) rfl #[.string t349] rfl (by (try simp only [List.map_toArray, List.map_cons, List.map_nil]); first | done | rfl | (simp only [List.length_drop, List.length_take]; rfl)) ?_; (with_reducible refine (pileref1_LocatorFault.calls t349 t399 _ A110.out).mono ?_); rintro e w117 ⟨rfl, hb⟩; refine ⟨_, rfl, ?_⟩; have n0_ := Aside0.mk (Kd.R_below (Kd.R_up HO_8.out) hb); have n1_ := Aside0.mk (blk_below (g := gb355) (o := .cells #[.int .i64 t338, .int .i64 t339] 27 (0, 0)) (blk_up BK355.out) hb); have n2_ := Aside0.mk (blk_below (g := gb356) (o := .cells #[.int .i64 x357000_25, .int .i64 x357001_25] 27 (0, 0)) (blk_up BK356.out) hb); have n3_ := Aside0.mk (below_step (by repeat (first | (with_reducible first | exact HB.out | apply below_alloc | apply pw_below_drewN | apply below_drew1 | refine below_set ?_ GE355.out | refine below_set ?_ GE356.out) | exact HB.out)) hb); clear HO_8; clear BK355; clear BK356; clear HB; have HO_8 := n0_; have BK355 := n1_; have BK356 := n2_; have HB := n3_; clear n0_ n1_ n2_ n3_; (try clear hb); (try clear hb2); (try clear hk); (try clear hi)) | ((with_reducible refine gate_callee (f := 40) rfl ?_); refine goesL_ (some 171) rfl rfl Try.func40 (by kernel_rfl) rfl #[.bool ((t351.length : Int) == 0)] rfl (by (try simp only [List.map_toArray, List.map_cons, List.map_nil]); first | done | rfl | (simp only [List.length_drop, List.length_take]; rfl)) ?_; (with_reducible refine (pileref1_NoneFault.calls ((t351.length : Int) == 0) t400 _ A111.out).mono ?_); rintro e w' ⟨rfl, ⟨nd, rfl⟩⟩; refine ⟨_, rfl, ?_⟩) | ((with_reducible refine gate_callee (f := 45) rfl ?_); refine goesL_ (some 173) rfl rfl Try.func45 (by kernel_rfl) rfl #[.slice Ao115 t351.length co115] rfl (by (try simp only [List.map_toArray, List.map_cons, List.map_nil]); first | done | rfl | (simp only [List.length_drop, List.length_take]; rfl)) ?_; (with_reducible refine (pileref1_LocatorsFault.calls kj98 _ _ t351 t401 _ ?side1 ?side2 A112.out).mono ?_); (case side1 => repeat (first | exact (Kd.R_reads' HO_8.out).2.2 | (with_reducible refine Kd.C_alloc ?_ _) | (with_reducible refine Kd.C_drewN ?_ _) | (with_reducible refine Kd.C_drew ?_))); (case side2 => exact (Kd.R_reads' HO_8.out).2.1); rintro e w118 ⟨rfl, hb⟩; refine ⟨_, rfl, ?_⟩; have n0_ := Aside0.mk (Kd.R_below (Kd.R_up HO_8.out) hb); have n1_ := Aside0.mk (blk_below (g := gb355) (o := .cells #[.int .i64 t338, .int .i64 t339] 27 (0, 0)) (blk_up BK355.out) hb); have n2_ := Aside0.mk (blk_below (g := gb356) (o := .cells #[.int .i64 x357000_25, .int .i64 x357001_25] 27 (0, 0)) (blk_up BK356.out) hb); have n3_ := Aside0.mk (below_step (by repeat (first | (with_reducible first | exact HB.out | apply below_alloc | apply pw_below_drewN | apply below_drew1 | refine below_set ?_ GE355.out | refine below_set ?_ GE356.out) | exact HB.out)) hb); clear HO_8; clear BK355; clear BK356; clear HB; have HO_8 := n0_; have BK355 := n1_; have BK356 := n2_; have HB := n3_; clear n0_ n1_ n2_ n3_; (try clear hb); (try clear hb2); (try clear hk); (try clear hi)) | ((with_reducible refine gate_dst (N := 174) rfl ?_); refine Kd.R_lit (Kd.int .i64) _ 32 ?hg (N := 174) ?hd (xs := ([t399, t400, t401] : List Int)) (inner := [.int .i64 t399, .int .i64 t400, .int .i64 t401]) (ok := fun _ => True) (okp := fun _ => True) ?hr ?hp (fun _ hk => hk) trivial (Below.refl _ _) (Nat.le_refl _) (by simp) ?_; (case hd => rfl); (case hg => rfl); (case hr => first | (go_simp; done) | (go_simp; rfl)); (case hp => exact (Reps.one (show Kd.M (Kd.int .i64) _ _ _ t399 [.int .i64 t399] from rfl) (Reps.one (show Kd.M (Kd.int .i64) _ _ _ t400 [.int .i64 t400] from rfl) (Reps.one (show Kd.M (Kd.int .i64) _ _ _ t401 [.int .i64 t401] from rfl) (Reps.none _ _))))); intro v403 w119 ho120 hb hg_ hnew_; clear hg_ hnew_; (first | rw [← Ny402.out] at ho120 | (simp only [Int.reduceToNat] at ho120; rw [← Ny402.out] at ho120)); have n0_ := Aside0.mk (Kd.R_below (Kd.R_up HO_8.out) hb); have n1_ := Aside0.mk (Kd.R_lower ho120 (below_size (by repeat (first | (with_reducible first | exact HB.out | apply below_alloc | apply pw_below_drewN | apply below_drew1 | refine below_set ?_ GE355.out | refine below_set ?_ GE356.out) | exact HB.out)))); have n2_ := Aside0.mk (blk_below (g := gb355) (o := .cells #[.int .i64 t338, .int .i64 t339] 27 (0, 0)) (blk_up BK355.out) hb); have n3_ := Aside0.mk (blk_below (g := gb356) (o := .cells #[.int .i64 x357000_25, .int .i64 x357001_25] 27 (0, 0)) (blk_up BK356.out) hb); have n4_ := Aside0.mk (below_step (by repeat (first | (with_reducible first | exact HB.out | apply below_alloc | apply pw_below_drewN | apply below_drew1 | refine below_set ?_ GE355.out | refine below_set ?_ GE356.out) | exact HB.out)) hb); clear HO_8; clear BK355; clear BK356; clear HB; have HO_8 := n0_; have HO404 := n1_; have BK355 := n2_; have BK356 := n3_; have HB := n4_; clear n0_ n1_ n2_ n3_ n4_; clear hb ho120; obtain ⟨Ao121, co121, eo121⟩ := Kd.R_slice HO404.out; subst eo121) | ((with_reducible refine gate_callee (f := 14) rfl ?_); refine goesL_ (some 175) rfl rfl Try.func14 (by kernel_rfl) rfl #[.slice Ao121 y402.length co121] rfl (by (try simp only [List.map_toArray, List.map_cons, List.map_nil]); first | done | rfl | (simp only [List.length_drop, List.length_take]; rfl)) ?_; (with_reducible refine (api_Errno.calls kj98 _ _ y402 t405 _ ?side1 ?side2 A113.out).mono ?_); (case side1 => repeat (first | exact (Kd.R_reads' HO404.out).2.2 | (with_reducible refine Kd.C_alloc ?_ _) | (with_reducible refine Kd.C_drewN ?_ _) | (with_reducible refine Kd.C_drew ?_))); (case side2 => exact (Kd.R_reads' HO404.out).2.1); rintro e w' ⟨rfl, ⟨nd, rfl⟩⟩; refine ⟨_, rfl, ?_⟩))
                                  (try simp only [Act.put, List.setIfInBounds_toArray, List.set_cons_zero, List.set_cons_succ])
                                  go_cut [177] (fun v177 wc => ∃ (kq : Nat) (x177_113 : Bool), v177 = .bool x177_113 ∧ Aside0 (pilelaw1_PlacesApart.j7 kq t349 t351 t396 t397 t398 t405 x177_113 = some r) ∧ Aside0 (kq ≤ kj98) ∧ Aside0 (Kd.R Kd.string 9 wc w.heap.size (fun _ => True) (.slice Ao115 t351.length co115) t351) ∧ Aside0 (wc.heap[gb355]? = some (.cells #[.int .i64 t338, .int .i64 t339] 27 (0, 0))) ∧ Aside0 (wc.heap[gb356]? = some (.cells #[.int .i64 x357000_25, .int .i64 x357001_25] 27 (0, 0))) ∧ Aside0 (Below w.heap.size w wc))
                                  case first =>
                                    have H := HC114.out; clear HC114
                                    as_aux_lemma =>
                                      have H' := Aside0.mk H; clear H
                                      go_wp2
                                      go_meet
                                      case rel => exact ⟨_, ((t405 != 0)), (by first | rfl | (simp; done) | (simp [*]; done)), H', ⟨by have := HJ6.out; have := HJ25.out; have := HJ36.out; have := HJ52.out; have := HJ68.out; have := HJ91.out; have := HJ98.out; first | omega | exact Nat.le_refl _⟩, ⟨by (with_reducible repeat (first | apply Kd.R_alloc | apply Kd.R_drewN | apply Kd.R_drew)); exact HO_8.out⟩, ⟨by (with_reducible repeat (first | refine blk_drewN ?_ _ | refine blk_drew ?_ | refine blk_alloc ?_ _)); exact BK355.out⟩, ⟨by (with_reducible repeat (first | refine blk_drewN ?_ _ | refine blk_drew ?_ | refine blk_alloc ?_ _)); exact BK356.out⟩, ⟨by repeat (first | (with_reducible first | exact HB.out | apply below_alloc | apply pw_below_drewN | apply below_drew1 | refine below_set ?_ GE355.out | refine below_set ?_ GE356.out) | exact HB.out)⟩⟩
                                  case rest =>
                                    clear HC114
                                    try clear c1
                                    try clear c2
                                    try clear p2
                                    try clear c3
                                    try clear c4
                                    try clear c5
                                    try clear c6
                                    try clear c7
                                    try clear c8
                                    try clear c9
                                    try clear c10
                                    try clear c14
                                    try clear c15
                                    try clear c16
                                    try clear c19
                                    try clear c20
                                    try clear c22
                                    try clear c27
                                    try clear c28
                                    try clear c29
                                    try clear c30
                                    try clear c31
                                    try clear c32
                                    try clear c33
                                    try clear c35
                                    try clear c36
                                    try clear c37
                                    try clear c38
                                    try clear c39
                                    try clear c40
                                    try clear c41
                                    try clear c43
                                    try clear c43b0
                                    try clear c43b1
                                    try clear c44
                                    try clear c44b0
                                    try clear c44b1
                                    try clear c45
                                    try clear c46
                                    try clear c46b0
                                    try clear c46b1
                                    try clear c49
                                    try clear c61
                                    try clear c70
                                    try clear c80
                                    try clear c80b0
                                    try clear c80b1
                                    try clear c85
                                    try clear c93
                                    try clear c93b0
                                    try clear c93b1
                                    try clear c95
                                    try clear c100
                                    try clear c100b0
                                    try clear c100b1
                                    try clear c101
                                    try clear c101b0
                                    try clear c101b1
                                    try clear c102
                                    try clear c102b0
                                    try clear c102b1
                                    try clear c103
                                    try clear c103b0
                                    try clear c103b1
                                    try clear c104
                                    try clear c104b0
                                    try clear c104b1
                                    try clear c108
                                    try clear hcz21_0
                                    try clear hcz21_1
                                    try clear hcz23_0
                                    try clear hcz23_1
                                    try clear hcz30_0
                                    try clear hcz30_1
                                    try clear hcz32_0
                                    try clear hcz32_1
                                    try clear hcz62_0
                                    try clear hcz62_1
                                    try clear hcz63_0
                                    try clear hcz63_1
                                    try clear hcz71_0
                                    try clear hcz71_1
                                    try clear hcz72_0
                                    try clear hcz72_1
                                    try clear hcz74_0
                                    try clear hcz74_1
                                    try clear hcz75_0
                                    try clear hcz75_1
                                    try clear hcz86_0
                                    try clear hcz86_1
                                    try clear hcz87_0
                                    try clear hcz87_1
                                    try clear hcz89_0
                                    try clear hcz89_1
                                    try clear hcz90_0
                                    try clear hcz90_1
                                    try clear hcz96_0
                                    try clear hcz96_1
                                    try clear hcz97_0
                                    try clear hcz97_1
                                    try clear hfz21_0
                                    try clear hfz21_1
                                    try clear hfz23_0
                                    try clear hfz23_1
                                    try clear hfz30_0
                                    try clear hfz30_1
                                    try clear hfz32_0
                                    try clear hfz32_1
                                    try clear hfz62_0
                                    try clear hfz62_1
                                    try clear hfz63_0
                                    try clear hfz63_1
                                    try clear hfz71_0
                                    try clear hfz71_1
                                    try clear hfz72_0
                                    try clear hfz72_1
                                    try clear hfz74_0
                                    try clear hfz74_1
                                    try clear hfz75_0
                                    try clear hfz75_1
                                    try clear hfz86_0
                                    try clear hfz86_1
                                    try clear hfz87_0
                                    try clear hfz87_1
                                    try clear hfz89_0
                                    try clear hfz89_1
                                    try clear hfz90_0
                                    try clear hfz90_1
                                    try clear hfz96_0
                                    try clear hfz96_1
                                    try clear hfz97_0
                                    try clear hfz97_1
                                    try clear p2
                                    obtain ⟨kq, x177_113, rfl, HA, HJ113, HO_8, BK355, BK356, HB⟩ := hcut
                                    cases kq with
                                    | zero => exact absurd HA.out (by simp [pilelaw1_PlacesApart.j7])
                                    | succ kj113 =>
                                      have H := HA.out; clear HA
                                      simp only [pilelaw1_PlacesApart.j7] at H
                                      by_cases c122 : x177_113 = true
                                      · subst c122
                                        (have H1 : (if t398 = t405 then (if t396 = 0 then (if t397 = 0 then ((pilelaw1_placed.f kj113).bind fun t406 => (some t406)) else (some false)) else (some false)) else (some false)) = some r := by rw [if_pos rfl] at H; exact H); clear H; have H := H1; clear H1
                                        by_cases c123 : t398 = t405
                                        · rw [if_pos c123] at H
                                          have c123b0 : (t398 == t405) = true := beq_iff_eq.mpr c123; have c123b1 : (t398 != t405) = false := bne_eq_false_iff_eq.mpr c123; clear c123
                                          by_cases c124 : t396 = 0
                                          · rw [if_pos c124] at H
                                            have c124b0 : (t396 == 0) = true := beq_iff_eq.mpr c124; have c124b1 : (t396 != 0) = false := bne_eq_false_iff_eq.mpr c124; clear c124
                                            by_cases c125 : t397 = 0
                                            · rw [if_pos c125] at H
                                              have c125b0 : (t397 == 0) = true := beq_iff_eq.mpr c125; have c125b1 : (t397 != 0) = false := bne_eq_false_iff_eq.mpr c125; clear c125; replace H := Option.bind_eq_some_iff.mp H; obtain ⟨t406, A1260, H⟩ := H; replace H : (some t406) = some r := H; have A126 := Aside0.mk A1260; clear A1260
                                              as_aux_lemma =>
                                                obtain rfl := Option.some.inj H
                                                go_wp2_with (first | (go_at_call 20; (with_reducible refine (pilelaw1_placed.calls kj113  t406 _ A126.out).mono ?_); rintro e w' ⟨rfl, ⟨nd, rfl⟩⟩))
                                                go_ret
                                                exact ⟨by first | rfl | (simp [errW_none, errW_some] <;> rfl) | (simp [*, errW_none, errW_some] <;> rfl), by repeat (first | (with_reducible first | exact HB.out | apply below_alloc | apply pw_below_drewN | apply below_drew1 | refine below_set ?_ GE355.out | refine below_set ?_ GE356.out) | exact HB.out)⟩
                                            · rw [if_neg c125] at H
                                              have c125b0 : (t397 == 0) = false := beq_eq_false_iff_ne.mpr c125; have c125b1 : (t397 != 0) = true := bne_iff_ne.mpr c125
                                              as_aux_lemma =>
                                                obtain rfl := Option.some.inj H
                                                go_wp2
                                                go_ret
                                                exact ⟨by first | rfl | (simp [errW_none, errW_some] <;> rfl) | (simp [*, errW_none, errW_some] <;> rfl), by repeat (first | (with_reducible first | exact HB.out | apply below_alloc | apply pw_below_drewN | apply below_drew1 | refine below_set ?_ GE355.out | refine below_set ?_ GE356.out) | exact HB.out)⟩
                                          · rw [if_neg c124] at H
                                            have c124b0 : (t396 == 0) = false := beq_eq_false_iff_ne.mpr c124; have c124b1 : (t396 != 0) = true := bne_iff_ne.mpr c124
                                            as_aux_lemma =>
                                              obtain rfl := Option.some.inj H
                                              go_wp2
                                              go_ret
                                              exact ⟨by first | rfl | (simp [errW_none, errW_some] <;> rfl) | (simp [*, errW_none, errW_some] <;> rfl), by repeat (first | (with_reducible first | exact HB.out | apply below_alloc | apply pw_below_drewN | apply below_drew1 | refine below_set ?_ GE355.out | refine below_set ?_ GE356.out) | exact HB.out)⟩
                                        · rw [if_neg c123] at H
                                          have c123b0 : (t398 == t405) = false := beq_eq_false_iff_ne.mpr c123; have c123b1 : (t398 != t405) = true := bne_iff_ne.mpr c123
                                          as_aux_lemma =>
                                            obtain rfl := Option.some.inj H
                                            go_wp2
                                            go_ret
                                            exact ⟨by first | rfl | (simp [errW_none, errW_some] <;> rfl) | (simp [*, errW_none, errW_some] <;> rfl), by repeat (first | (with_reducible first | exact HB.out | apply below_alloc | apply pw_below_drewN | apply below_drew1 | refine below_set ?_ GE355.out | refine below_set ?_ GE356.out) | exact HB.out)⟩
                                      · replace c122 := Bool.eq_false_iff.mpr c122
                                        subst c122; (have H1 : ((pileref1_FarthestOf.f kj113 t349 t351).bind fun bt407 => (if t398 = 0 then (if t396 = bt407.1 then (if t397 = bt407.2 then ((pilelaw1_placed.f kj113).bind fun t409 => (some t409)) else (some false)) else (some false)) else (some false))) = some r := by rw [if_neg (show ¬ (false = true) by decide)] at H; exact H); clear H; have H := H1; clear H1; replace H := Option.bind_eq_some_iff.mp H; obtain ⟨⟨t407, t408⟩, A1270, H⟩ := H; (replace H : (if t398 = 0 then (if t396 = t407 then (if t397 = t408 then ((pilelaw1_placed.f kj113).bind fun t409 => (some t409)) else (some false)) else (some false)) else (some false)) = some r := H); have A127 := Aside0.mk A1270; clear A1270
                                        by_cases c128 : t398 = 0
                                        · rw [if_pos c128] at H
                                          have c128b0 : (t398 == 0) = true := beq_iff_eq.mpr c128; have c128b1 : (t398 != 0) = false := bne_eq_false_iff_eq.mpr c128; clear c128
                                          by_cases c129 : t396 = t407
                                          · rw [if_pos c129] at H
                                            have c129b0 : (t396 == t407) = true := beq_iff_eq.mpr c129; have c129b1 : (t396 != t407) = false := bne_eq_false_iff_eq.mpr c129; clear c129
                                            by_cases c130 : t397 = t408
                                            · rw [if_pos c130] at H
                                              have c130b0 : (t397 == t408) = true := beq_iff_eq.mpr c130; have c130b1 : (t397 != t408) = false := bne_eq_false_iff_eq.mpr c130; clear c130; replace H := Option.bind_eq_some_iff.mp H; obtain ⟨t409, A1310, H⟩ := H; replace H : (some t409) = some r := H; have A131 := Aside0.mk A1310; clear A1310
                                              as_aux_lemma =>
                                                obtain rfl := Option.some.inj H
                                                go_wp2_with (first | ((with_reducible refine gate_callee (f := 46) rfl ?_); refine goesL_ (some 195) rfl rfl Try.func46 (by kernel_rfl) rfl #[.string t349, .slice Ao115 t351.length co115] rfl (by (try simp only [List.map_toArray, List.map_cons, List.map_nil]); first | done | rfl | (simp only [List.length_drop, List.length_take]; rfl)) ?_; (with_reducible refine (pileref1_FarthestOf.calls kj113 t349 _ _ t351 t407 t408 _ ?side1 ?side2 A127.out).mono ?_); (case side1 => repeat (first | exact (Kd.R_reads' HO_8.out).2.2 | (with_reducible refine Kd.C_alloc ?_ _) | (with_reducible refine Kd.C_drewN ?_ _) | (with_reducible refine Kd.C_drew ?_))); (case side2 => exact (Kd.R_reads' HO_8.out).2.1); rintro e w132 ⟨rfl, hb⟩; refine ⟨_, rfl, ?_⟩; have n0_ := Aside0.mk (Kd.R_below (Kd.R_up HO_8.out) hb); have n1_ := Aside0.mk (blk_below (g := gb355) (o := .cells #[.int .i64 t338, .int .i64 t339] 27 (0, 0)) (blk_up BK355.out) hb); have n2_ := Aside0.mk (blk_below (g := gb356) (o := .cells #[.int .i64 x357000_25, .int .i64 x357001_25] 27 (0, 0)) (blk_up BK356.out) hb); have n3_ := Aside0.mk (below_step (by repeat (first | (with_reducible first | exact HB.out | apply below_alloc | apply pw_below_drewN | apply below_drew1 | refine below_set ?_ GE355.out | refine below_set ?_ GE356.out) | exact HB.out)) hb); clear HO_8; clear BK355; clear BK356; clear HB; have HO_8 := n0_; have BK355 := n1_; have BK356 := n2_; have HB := n3_; clear n0_ n1_ n2_ n3_; (try clear hb); (try clear hb2); (try clear hk); (try clear hi)) | (go_at_call 20; (with_reducible refine (pilelaw1_placed.calls kj113  t409 _ A131.out).mono ?_); rintro e w' ⟨rfl, ⟨nd, rfl⟩⟩))
                                                go_ret
                                                exact ⟨by first | rfl | (simp [errW_none, errW_some] <;> rfl) | (simp [*, errW_none, errW_some] <;> rfl), by repeat (first | (with_reducible first | exact HB.out | apply below_alloc | apply pw_below_drewN | apply below_drew1 | refine below_set ?_ GE355.out | refine below_set ?_ GE356.out) | exact HB.out)⟩
                                            · rw [if_neg c130] at H
                                              have c130b0 : (t397 == t408) = false := beq_eq_false_iff_ne.mpr c130; have c130b1 : (t397 != t408) = true := bne_iff_ne.mpr c130
                                              as_aux_lemma =>
                                                obtain rfl := Option.some.inj H
                                                go_wp2_with (first | ((with_reducible refine gate_callee (f := 46) rfl ?_); refine goesL_ (some 195) rfl rfl Try.func46 (by kernel_rfl) rfl #[.string t349, .slice Ao115 t351.length co115] rfl (by (try simp only [List.map_toArray, List.map_cons, List.map_nil]); first | done | rfl | (simp only [List.length_drop, List.length_take]; rfl)) ?_; (with_reducible refine (pileref1_FarthestOf.calls kj113 t349 _ _ t351 t407 t408 _ ?side1 ?side2 A127.out).mono ?_); (case side1 => repeat (first | exact (Kd.R_reads' HO_8.out).2.2 | (with_reducible refine Kd.C_alloc ?_ _) | (with_reducible refine Kd.C_drewN ?_ _) | (with_reducible refine Kd.C_drew ?_))); (case side2 => exact (Kd.R_reads' HO_8.out).2.1); rintro e w133 ⟨rfl, hb⟩; refine ⟨_, rfl, ?_⟩; have n0_ := Aside0.mk (Kd.R_below (Kd.R_up HO_8.out) hb); have n1_ := Aside0.mk (blk_below (g := gb355) (o := .cells #[.int .i64 t338, .int .i64 t339] 27 (0, 0)) (blk_up BK355.out) hb); have n2_ := Aside0.mk (blk_below (g := gb356) (o := .cells #[.int .i64 x357000_25, .int .i64 x357001_25] 27 (0, 0)) (blk_up BK356.out) hb); have n3_ := Aside0.mk (below_step (by repeat (first | (with_reducible first | exact HB.out | apply below_alloc | apply pw_below_drewN | apply below_drew1 | refine below_set ?_ GE355.out | refine below_set ?_ GE356.out) | exact HB.out)) hb); clear HO_8; clear BK355; clear BK356; clear HB; have HO_8 := n0_; have BK355 := n1_; have BK356 := n2_; have HB := n3_; clear n0_ n1_ n2_ n3_; (try clear hb); (try clear hb2); (try clear hk); (try clear hi)))
                                                go_ret
                                                exact ⟨by first | rfl | (simp [errW_none, errW_some] <;> rfl) | (simp [*, errW_none, errW_some] <;> rfl), by repeat (first | (with_reducible first | exact HB.out | apply below_alloc | apply pw_below_drewN | apply below_drew1 | refine below_set ?_ GE355.out | refine below_set ?_ GE356.out) | exact HB.out)⟩
                                          · rw [if_neg c129] at H
                                            have c129b0 : (t396 == t407) = false := beq_eq_false_iff_ne.mpr c129; have c129b1 : (t396 != t407) = true := bne_iff_ne.mpr c129
                                            as_aux_lemma =>
                                              obtain rfl := Option.some.inj H
                                              go_wp2_with (first | ((with_reducible refine gate_callee (f := 46) rfl ?_); refine goesL_ (some 195) rfl rfl Try.func46 (by kernel_rfl) rfl #[.string t349, .slice Ao115 t351.length co115] rfl (by (try simp only [List.map_toArray, List.map_cons, List.map_nil]); first | done | rfl | (simp only [List.length_drop, List.length_take]; rfl)) ?_; (with_reducible refine (pileref1_FarthestOf.calls kj113 t349 _ _ t351 t407 t408 _ ?side1 ?side2 A127.out).mono ?_); (case side1 => repeat (first | exact (Kd.R_reads' HO_8.out).2.2 | (with_reducible refine Kd.C_alloc ?_ _) | (with_reducible refine Kd.C_drewN ?_ _) | (with_reducible refine Kd.C_drew ?_))); (case side2 => exact (Kd.R_reads' HO_8.out).2.1); rintro e w134 ⟨rfl, hb⟩; refine ⟨_, rfl, ?_⟩; have n0_ := Aside0.mk (Kd.R_below (Kd.R_up HO_8.out) hb); have n1_ := Aside0.mk (blk_below (g := gb355) (o := .cells #[.int .i64 t338, .int .i64 t339] 27 (0, 0)) (blk_up BK355.out) hb); have n2_ := Aside0.mk (blk_below (g := gb356) (o := .cells #[.int .i64 x357000_25, .int .i64 x357001_25] 27 (0, 0)) (blk_up BK356.out) hb); have n3_ := Aside0.mk (below_step (by repeat (first | (with_reducible first | exact HB.out | apply below_alloc | apply pw_below_drewN | apply below_drew1 | refine below_set ?_ GE355.out | refine below_set ?_ GE356.out) | exact HB.out)) hb); clear HO_8; clear BK355; clear BK356; clear HB; have HO_8 := n0_; have BK355 := n1_; have BK356 := n2_; have HB := n3_; clear n0_ n1_ n2_ n3_; (try clear hb); (try clear hb2); (try clear hk); (try clear hi)))
                                              go_ret
                                              exact ⟨by first | rfl | (simp [errW_none, errW_some] <;> rfl) | (simp [*, errW_none, errW_some] <;> rfl), by repeat (first | (with_reducible first | exact HB.out | apply below_alloc | apply pw_below_drewN | apply below_drew1 | refine below_set ?_ GE355.out | refine below_set ?_ GE356.out) | exact HB.out)⟩
                                        · rw [if_neg c128] at H
                                          have c128b0 : (t398 == 0) = false := beq_eq_false_iff_ne.mpr c128; have c128b1 : (t398 != 0) = true := bne_iff_ne.mpr c128
                                          as_aux_lemma =>
                                            obtain rfl := Option.some.inj H
                                            go_wp2_with (first | ((with_reducible refine gate_callee (f := 46) rfl ?_); refine goesL_ (some 195) rfl rfl Try.func46 (by kernel_rfl) rfl #[.string t349, .slice Ao115 t351.length co115] rfl (by (try simp only [List.map_toArray, List.map_cons, List.map_nil]); first | done | rfl | (simp only [List.length_drop, List.length_take]; rfl)) ?_; (with_reducible refine (pileref1_FarthestOf.calls kj113 t349 _ _ t351 t407 t408 _ ?side1 ?side2 A127.out).mono ?_); (case side1 => repeat (first | exact (Kd.R_reads' HO_8.out).2.2 | (with_reducible refine Kd.C_alloc ?_ _) | (with_reducible refine Kd.C_drewN ?_ _) | (with_reducible refine Kd.C_drew ?_))); (case side2 => exact (Kd.R_reads' HO_8.out).2.1); rintro e w135 ⟨rfl, hb⟩; refine ⟨_, rfl, ?_⟩; have n0_ := Aside0.mk (Kd.R_below (Kd.R_up HO_8.out) hb); have n1_ := Aside0.mk (blk_below (g := gb355) (o := .cells #[.int .i64 t338, .int .i64 t339] 27 (0, 0)) (blk_up BK355.out) hb); have n2_ := Aside0.mk (blk_below (g := gb356) (o := .cells #[.int .i64 x357000_25, .int .i64 x357001_25] 27 (0, 0)) (blk_up BK356.out) hb); have n3_ := Aside0.mk (below_step (by repeat (first | (with_reducible first | exact HB.out | apply below_alloc | apply pw_below_drewN | apply below_drew1 | refine below_set ?_ GE355.out | refine below_set ?_ GE356.out) | exact HB.out)) hb); clear HO_8; clear BK355; clear BK356; clear HB; have HO_8 := n0_; have BK355 := n1_; have BK356 := n2_; have HB := n3_; clear n0_ n1_ n2_ n3_; (try clear hb); (try clear hb2); (try clear hk); (try clear hi)))
                                            go_ret
                                            exact ⟨by first | rfl | (simp [errW_none, errW_some] <;> rfl) | (simp [*, errW_none, errW_some] <;> rfl), by repeat (first | (with_reducible first | exact HB.out | apply below_alloc | apply pw_below_drewN | apply below_drew1 | refine below_set ?_ GE355.out | refine below_set ?_ GE356.out) | exact HB.out)⟩

/-- THE ONE PURE STATEMENT of pilelaw1_PlacesApart: yours. -/
def pilelaw1_PlacesApart.Pure : Prop := ∀ (l0 : List Int), l0.length ≤ maxLen → l0.length * 8 ≤ 140737488351232 → (∀ x ∈ l0, (Lit.int .i64 x).wf = true) → ∃ k, pilelaw1_PlacesApart.f k l0 = some true
theorem pilelaw1_PlacesApart.walk (P : pilelaw1_PlacesApart.Pure) (a0 : Option Addr) (len0 cap0 : Nat) (z0 : List Int) (w : World) (w0 : (a0 = none ∧ len0 = 0 ∧ cap0 = 0 ∧ z0 = []) ∨ ∃ x, a0 = some x ∧ len0 ≤ cap0 ∧ cap0 ≤ maxLen ∧ z0.length = cap0 ∧ (∀ i, i < z0.length → w.cell? (x.add i) = some (.int .i64 (z0.getD i 0))) ∧ ∀ n ∈ z0, (Lit.int .i64 n).wf = true) (y0 : len0 * 8 ≤ 140737488351232) :
    Calls Try.prog 5 #[.slice a0 len0 cap0] w fun e w' => e = .returned (.bool true) ∧ Below w.heap.size w w' := by
  obtain ⟨l0, rfl, hr0, hm0, hw0, hc0⟩ := ReadsInt.ofRowC w0; obtain ⟨k, h⟩ := P l0 hm0 y0 hw0
  refine (pilelaw1_PlacesApart.calls k _ _ l0 true w (Kd.C_of_reads (d := (0 : Int)) (h1 := fun _ => rfl) hr0) hc0 h).mono ?_
  rintro e w' ⟨rfl, hd⟩
  exact ⟨rfl, hd⟩

end Go.Proofs.Ytonnpocamipbiaa.PPlacesApart
