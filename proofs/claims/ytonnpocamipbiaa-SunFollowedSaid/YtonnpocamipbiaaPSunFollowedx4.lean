-- A program of this session wrote this text: a turned copy of the printer; functions proved by hand stand in it.
import Derived.Test.YtonnpocamipbiaaPSunFollowedx0
import Derived.Test.YtonnpocamipbiaaPSunFollowedx1
import Derived.Test.YtonnpocamipbiaaPSunFollowedx2
import Derived.Test.YtonnpocamipbiaaPSunFollowedx3
namespace Go.Proofs.Ytonnpocamipbiaa.PSunFollowed
open Go.RowKit Go.Proofs.YtonnpocamipbiaaW.PrintWords Go.Proofs.YtonnpocamipbiaaW.PrintLast Go.Proofs.YtonnpocamipbiaaW.PrintMore Go.Proofs.YtonnpocamipbiaaW.PrintOwn
attribute [local go_sem] max2_int min2_int max_two min_two max_three min_three max_four min_four   -- for this text's walks alone
set_option linter.unusedVariables false
set_option linter.unusedSimpArgs false

/-! ### pilelaw1_SunFollowed: function 3 -/
mutual
def pilelaw1_SunFollowed.j0 : Nat → Int → Int → Int → Int → Option (Bool)
  | 0, _, _, _, _ => none
  | k + 1, x5, x6, x217000, x217001 => (place_Tilt.f k x5).bind fun bt224 => ((place_Sun.f k x217000 x217001 x5).bind fun bt226 => ((place_Grey.f k x217000 x217001 x5 x6).bind fun bt228 => ((pileref1_MomentFault.f x5).bind fun t230 => ((pileref1_SiteFault.f x217000 x217001).bind fun t231 => ((api_Errno.f k (([t231, t230] : List Int))).bind fun t235 => ((pileref1_SpanFault.f x6 0 200000).bind fun t236 => ((api_Errno.f k (([t235, t236] : List Int))).bind fun t240 => (if t230 = 0 then ((pileref1_TiltOf.f k x5).bind fun t241 => (pilelaw1_SunFollowed.j1 k x5 x6 bt224.1 bt224.2 bt226.1 bt226.2 bt228.1 bt228.2 t230 t235 t240 t241 0 x217000 x217001)) else (pilelaw1_SunFollowed.j1 k x5 x6 bt224.1 bt224.2 bt226.1 bt226.2 bt228.1 bt228.2 t230 t235 t240 0 0 x217000 x217001)))))))))
def pilelaw1_SunFollowed.j1 : Nat → Int → Int → Int → Int → Int → Int → Bool → Int → Int → Int → Int → Int → Int → Int → Int → Option (Bool)
  | 0, _, _, _, _, _, _, _, _, _, _, _, _, _, _, _ => none
  | k + 1, x5, x6, x7, x8, x9, x10, x11, x12, x13, x14, x15, x16, x17, x217000, x217001 => if x14 = 0 then ((pileref1_SunOf.f k x217000 x217001 x5).bind fun t242 => (if x8 = x13 then (if x7 = x16 then (if x10 = x14 then (if x9 = t242 then (if x12 = x15 then (if x15 = 0 then ((pileref1_GreyAt.f k x217000 x217001 x5 x6).bind fun t243 => (if (x11 == t243) = true then ((pilelaw1_placed.f k).bind fun t244 => (some t244)) else (some false))) else (if (x11 == false) = true then ((pilelaw1_placed.f k).bind fun t245 => (some t245)) else (some false))) else (some false)) else (some false)) else (some false)) else (some false)) else (some false))) else (if x8 = x13 then (if x7 = x16 then (if x10 = x14 then (if x9 = x17 then (if x12 = x15 then (if x15 = 0 then ((pileref1_GreyAt.f k x217000 x217001 x5 x6).bind fun t246 => (if (x11 == t246) = true then ((pilelaw1_placed.f k).bind fun t247 => (some t247)) else (some false))) else (if (x11 == false) = true then ((pilelaw1_placed.f k).bind fun t248 => (some t248)) else (some false))) else (some false)) else (some false)) else (some false)) else (some false)) else (some false))
end
def pilelaw1_SunFollowed.f (k : Nat) (l0 : List Int) : Option (Bool) := (pilemake_Stream_SiteOf.f l0 0).bind fun bt206 => ((pilemake_Stream_SkyTime.f l0 bt206.2.2).bind fun bt209 => ((pilemake_Stream_Pick.f l0 bt209.2 (([0, 10000, 100000, 200000, (-1), 200001] : List Int))).bind fun bt214 => ((pilemake_Stream_Flip.f l0 bt214.2 20).bind fun bt217 => (if bt217.1 = true then ((pilemake_Stream_Pick.f l0 bt217.2 (([(-1), 345686400000] : List Int))).bind fun bt222 => (pilelaw1_SunFollowed.j0 k bt222.1 bt214.1 bt206.1 bt206.2.1)) else (pilelaw1_SunFollowed.j0 k bt209.1 bt214.1 bt206.1 bt206.2.1)))))
theorem pilelaw1_SunFollowed.mono_l : ∀ k, (∀ y0 y1 y2 y3, LeO (pilelaw1_SunFollowed.j0 k y0 y1 y2 y3) (pilelaw1_SunFollowed.j0 (k + 1) y0 y1 y2 y3)) ∧ (∀ y0 y1 y2 y3 y4 y5 y6 y7 y8 y9 y10 y11 y12 y13 y14, LeO (pilelaw1_SunFollowed.j1 k y0 y1 y2 y3 y4 y5 y6 y7 y8 y9 y10 y11 y12 y13 y14) (pilelaw1_SunFollowed.j1 (k + 1) y0 y1 y2 y3 y4 y5 y6 y7 y8 y9 y10 y11 y12 y13 y14))
  | 0 => ⟨fun _ _ _ _ r h => by simp [pilelaw1_SunFollowed.j0] at h, fun _ _ _ _ _ _ _ _ _ _ _ _ _ _ _ r h => by simp [pilelaw1_SunFollowed.j1] at h⟩
  | k + 1 => by
    obtain ⟨ih0, ih1⟩ := pilelaw1_SunFollowed.mono_l k
    refine ⟨?_, ?_⟩
    · intro y0 y1 y2 y3
      unfold pilelaw1_SunFollowed.j0
      repeat' first
      | (with_reducible exact ih0 _ _ _ _)
      | (with_reducible exact ih1 _ _ _ _ _ _ _ _ _ _ _ _ _ _ _)
      | (with_reducible exact api_Errno.mono _ _)
      | (with_reducible exact pilelaw1_placed.mono _)
      | (with_reducible exact pileref1_GreyAt.mono _ _ _ _ _)
      | (with_reducible exact pileref1_SunOf.mono _ _ _ _)
      | (with_reducible exact pileref1_TiltOf.mono _ _)
      | (with_reducible exact place_Grey.mono _ _ _ _ _)
      | (with_reducible exact place_Sun.mono _ _ _ _)
      | (with_reducible exact place_Tilt.mono _ _)
      | (with_reducible exact LeO.refl _)
      | (with_reducible exact LeO.none _)
      | (with_reducible refine LeO.ite ?_ ?_)
      | (with_reducible refine LeO.bind ?_ (fun _ => ?_))
      | exact ih0 _ _ _ _
      | exact ih1 _ _ _ _ _ _ _ _ _ _ _ _ _ _ _
      | exact api_Errno.mono _ _
      | exact pilelaw1_placed.mono _
      | exact pileref1_GreyAt.mono _ _ _ _ _
      | exact pileref1_SunOf.mono _ _ _ _
      | exact pileref1_TiltOf.mono _ _
      | exact place_Grey.mono _ _ _ _ _
      | exact place_Sun.mono _ _ _ _
      | exact place_Tilt.mono _ _
      | exact LeO.none _
      | refine LeO.ite ?_ ?_
      | refine LeO.bind ?_ (fun _ => ?_)
    · intro y0 y1 y2 y3 y4 y5 y6 y7 y8 y9 y10 y11 y12 y13 y14
      unfold pilelaw1_SunFollowed.j1
      repeat' first
      | (with_reducible exact ih0 _ _ _ _)
      | (with_reducible exact ih1 _ _ _ _ _ _ _ _ _ _ _ _ _ _ _)
      | (with_reducible exact api_Errno.mono _ _)
      | (with_reducible exact pilelaw1_placed.mono _)
      | (with_reducible exact pileref1_GreyAt.mono _ _ _ _ _)
      | (with_reducible exact pileref1_SunOf.mono _ _ _ _)
      | (with_reducible exact pileref1_TiltOf.mono _ _)
      | (with_reducible exact place_Grey.mono _ _ _ _ _)
      | (with_reducible exact place_Sun.mono _ _ _ _)
      | (with_reducible exact place_Tilt.mono _ _)
      | (with_reducible exact LeO.refl _)
      | (with_reducible exact LeO.none _)
      | (with_reducible refine LeO.ite ?_ ?_)
      | (with_reducible refine LeO.bind ?_ (fun _ => ?_))
      | exact ih0 _ _ _ _
      | exact ih1 _ _ _ _ _ _ _ _ _ _ _ _ _ _ _
      | exact api_Errno.mono _ _
      | exact pilelaw1_placed.mono _
      | exact pileref1_GreyAt.mono _ _ _ _ _
      | exact pileref1_SunOf.mono _ _ _ _
      | exact pileref1_TiltOf.mono _ _
      | exact place_Grey.mono _ _ _ _ _
      | exact place_Sun.mono _ _ _ _
      | exact place_Tilt.mono _ _
      | exact LeO.none _
      | refine LeO.ite ?_ ?_
      | refine LeO.bind ?_ (fun _ => ?_)
theorem pilelaw1_SunFollowed.mono : ∀ a0 k, LeO (pilelaw1_SunFollowed.f k a0) (pilelaw1_SunFollowed.f (k + 1) a0) := by
  intro a0 k
  obtain ⟨ih0, ih1⟩ := pilelaw1_SunFollowed.mono_l k
  unfold pilelaw1_SunFollowed.f
  repeat' first
      | (with_reducible exact ih0 _ _ _ _)
      | (with_reducible exact ih1 _ _ _ _ _ _ _ _ _ _ _ _ _ _ _)
      | (with_reducible exact api_Errno.mono _ _)
      | (with_reducible exact pilelaw1_placed.mono _)
      | (with_reducible exact pileref1_GreyAt.mono _ _ _ _ _)
      | (with_reducible exact pileref1_SunOf.mono _ _ _ _)
      | (with_reducible exact pileref1_TiltOf.mono _ _)
      | (with_reducible exact place_Grey.mono _ _ _ _ _)
      | (with_reducible exact place_Sun.mono _ _ _ _)
      | (with_reducible exact place_Tilt.mono _ _)
      | (with_reducible exact LeO.refl _)
      | (with_reducible exact LeO.none _)
      | (with_reducible refine LeO.ite ?_ ?_)
      | (with_reducible refine LeO.bind ?_ (fun _ => ?_))
      | exact ih0 _ _ _ _
      | exact ih1 _ _ _ _ _ _ _ _ _ _ _ _ _ _ _
      | exact api_Errno.mono _ _
      | exact pilelaw1_placed.mono _
      | exact pileref1_GreyAt.mono _ _ _ _ _
      | exact pileref1_SunOf.mono _ _ _ _
      | exact pileref1_TiltOf.mono _ _
      | exact place_Grey.mono _ _ _ _ _
      | exact place_Sun.mono _ _ _ _
      | exact place_Tilt.mono _ _
      | exact LeO.none _
      | refine LeO.ite ?_ ?_
      | refine LeO.bind ?_ (fun _ => ?_)
set_option maxHeartbeats 8000000 in
set_option maxRecDepth 100000 in
theorem pilelaw1_SunFollowed.calls (k : Nat) (A0 : Option Addr) (c0 : Nat) (l0 : List Int) (r : Bool) (w : World) (hr0 : Kd.C (Kd.int .i64) w A0 l0.length l0) (hc0 : l0.length ≤ c0) (h : pilelaw1_SunFollowed.f k l0 = some r) :
    Calls Try.prog 3 #[.slice A0 l0.length c0] w fun e w' => e = .returned (.bool r) ∧ Below w.heap.size w w' := by
  have hu25 := Try.underlying25
  have hu27 := Try.underlying27
  have HR0 := Aside0.mk hr0
  have HC0 := Aside0.mk hc0
  clear hr0 hc0
  have HB := Aside0.mk (Below.refl w.heap.size w)
  have H : ((pilemake_Stream_SiteOf.f l0 0).bind fun bt206 => ((pilemake_Stream_SkyTime.f l0 bt206.2.2).bind fun bt209 => ((pilemake_Stream_Pick.f l0 bt209.2 (([0, 10000, 100000, 200000, (-1), 200001] : List Int))).bind fun bt214 => ((pilemake_Stream_Flip.f l0 bt214.2 20).bind fun bt217 => (if bt217.1 = true then ((pilemake_Stream_Pick.f l0 bt217.2 (([(-1), 345686400000] : List Int))).bind fun bt222 => (pilelaw1_SunFollowed.j0 k bt222.1 bt214.1 bt206.1 bt206.2.1)) else (pilelaw1_SunFollowed.j0 k bt209.1 bt214.1 bt206.1 bt206.2.1)))))) = some r := h
  clear h
  replace H := Option.bind_eq_some_iff.mp H
  obtain ⟨⟨t206, t207, t208⟩, A20, H⟩ := H
  replace H : ((pilemake_Stream_SkyTime.f l0 t208).bind fun bt209 => ((pilemake_Stream_Pick.f l0 bt209.2 (([0, 10000, 100000, 200000, (-1), 200001] : List Int))).bind fun bt214 => ((pilemake_Stream_Flip.f l0 bt214.2 20).bind fun bt217 => (if bt217.1 = true then ((pilemake_Stream_Pick.f l0 bt217.2 (([(-1), 345686400000] : List Int))).bind fun bt222 => (pilelaw1_SunFollowed.j0 k bt222.1 bt214.1 t206 t207)) else (pilelaw1_SunFollowed.j0 k bt209.1 bt214.1 t206 t207))))) = some r := H
  have A2 := Aside0.mk A20
  clear A20
  replace H := Option.bind_eq_some_iff.mp H
  obtain ⟨⟨t209, t210⟩, A30, H⟩ := H
  replace H : ((pilemake_Stream_Pick.f l0 t210 (([0, 10000, 100000, 200000, (-1), 200001] : List Int))).bind fun bt214 => ((pilemake_Stream_Flip.f l0 bt214.2 20).bind fun bt217 => (if bt217.1 = true then ((pilemake_Stream_Pick.f l0 bt217.2 (([(-1), 345686400000] : List Int))).bind fun bt222 => (pilelaw1_SunFollowed.j0 k bt222.1 bt214.1 t206 t207)) else (pilelaw1_SunFollowed.j0 k t209 bt214.1 t206 t207)))) = some r := H
  have A3 := Aside0.mk A30
  clear A30
  obtain ⟨y211, hy211⟩ : ∃ y_ : List Int, y_ = (([0, 10000, 100000, 200000, (-1), 200001] : List Int)) := ⟨_, rfl⟩
  replace H : ((pilemake_Stream_Pick.f l0 t210 y211).bind fun bt214 => ((pilemake_Stream_Flip.f l0 bt214.2 20).bind fun bt217 => (if bt217.1 = true then ((pilemake_Stream_Pick.f l0 bt217.2 (([(-1), 345686400000] : List Int))).bind fun bt222 => (pilelaw1_SunFollowed.j0 k bt222.1 bt214.1 t206 t207)) else (pilelaw1_SunFollowed.j0 k t209 bt214.1 t206 t207)))) = some r := by first | (rw [hy211]; with_reducible exact H) | (have H2_ := (Option.bind_some _ _).symm.trans H; rw [hy211]; with_reducible exact H2_) | (have H2_ := (Option.bind_some _ _).symm.trans H; with_reducible exact H2_) | with_reducible exact H | (rw [hy211]; exact H) | exact H
  have Ny211 := Aside0.mk hy211
  clear hy211
  replace H := Option.bind_eq_some_iff.mp H
  obtain ⟨⟨t214, t215⟩, A40, H⟩ := H
  replace H : ((pilemake_Stream_Flip.f l0 t215 20).bind fun bt217 => (if bt217.1 = true then ((pilemake_Stream_Pick.f l0 bt217.2 (([(-1), 345686400000] : List Int))).bind fun bt222 => (pilelaw1_SunFollowed.j0 k bt222.1 t214 t206 t207)) else (pilelaw1_SunFollowed.j0 k t209 t214 t206 t207))) = some r := H
  have A4 := Aside0.mk A40
  clear A40
  replace H := Option.bind_eq_some_iff.mp H
  obtain ⟨⟨t217, t218⟩, A50, H⟩ := H
  replace H : (if t217 = true then ((pilemake_Stream_Pick.f l0 t218 (([(-1), 345686400000] : List Int))).bind fun bt222 => (pilelaw1_SunFollowed.j0 k bt222.1 t214 t206 t207)) else (pilelaw1_SunFollowed.j0 k t209 t214 t206 t207)) = some r := H
  have A5 := Aside0.mk A50
  clear A50
  have HC6 := Aside0.mk H
  clear H
  go_enter Try.func3, Try.ntmps3
  go_upto_if 29 with (first | ((with_reducible refine gate_dst (N := 20) rfl ?_); refine box_event ?hg (N := 20) ?hd (cs := #[.slice A0 l0.length c0, .int .i64 0]) (t := 25) ?hr ?_; (case hd => rfl); (case hg => rfl); (case hr => first | (go_simp; done) | (go_simp; rfl)); intro gb205 hg w7 hbox hb; have n0_ := Aside0.mk (below_step (by repeat (first | (with_reducible first | exact HB.out | apply below_alloc | apply pw_below_drewN | apply below_drew1) | exact HB.out)) hb); have n1_ := Aside0.mk ((⟨_, _, hbox, (by rw [hg]; exact (below_size (by repeat (first | (with_reducible first | exact HB.out | apply below_alloc | apply pw_below_drewN | apply below_drew1) | exact HB.out))) : w.heap.size ≤ gb205), HR0.out⟩ : IsS25 w w7 gb205 l0 0)); clear HB; have HB := n0_; have HI205 := n1_; clear n0_ n1_; clear hb hbox hg) | ((with_reducible refine gate_callee (f := 6) rfl ?_); refine goesL_ (some 22) rfl rfl Try.func6 (by kernel_rfl) rfl #[.pointer (some ⟨gb205, 0, none⟩)] rfl (by (try simp only [List.map_toArray, List.map_cons, List.map_nil]); first | done | rfl | (simp only [List.length_drop, List.length_take]; rfl)) ?_; (with_reducible refine (pilemake_Stream_SiteOf.calls gb205 l0 0 t206 t207 t208 w _ ?side1 ?side2 A2.out).mono ?_); (case side1 => repeat (first | (with_reducible first | exact HI205.out | apply IsS25.alloc | apply IsS25.drewN | apply IsS25.drew | apply IsS25.set_1) | exact HI205.out)); (case side2 => repeat (first | (with_reducible first | exact HB.out | apply below_alloc | apply pw_below_drewN | apply below_drew1 | refine below_set ?_ (IsS25.ge HI205.out)) | exact HB.out)); rintro e w8 ⟨rfl, hi, hb, hk⟩; refine ⟨_, rfl, ?_⟩; have n0_ := Aside0.mk (hb); have n1_ := Aside0.mk (hi); clear HB; clear HI205; have HB := n0_; have HI205 := n1_; clear n0_ n1_; (try clear hb); (try clear hb2); (try clear hk); (try clear hi)) | ((with_reducible refine gate_callee (f := 7) rfl ?_); refine goesL_ (some 24) rfl rfl Try.func7 (by kernel_rfl) rfl #[.pointer (some ⟨gb205, 0, none⟩)] rfl (by (try simp only [List.map_toArray, List.map_cons, List.map_nil]); first | done | rfl | (simp only [List.length_drop, List.length_take]; rfl)) ?_; (with_reducible refine (pilemake_Stream_SkyTime.calls gb205 l0 t208 t209 t210 w _ ?side1 ?side2 A3.out).mono ?_); (case side1 => repeat (first | (with_reducible first | exact HI205.out | apply IsS25.alloc | apply IsS25.drewN | apply IsS25.drew | apply IsS25.set_1) | exact HI205.out)); (case side2 => repeat (first | (with_reducible first | exact HB.out | apply below_alloc | apply pw_below_drewN | apply below_drew1 | refine below_set ?_ (IsS25.ge HI205.out)) | exact HB.out)); rintro e w9 ⟨rfl, hi, hb, hk⟩; refine ⟨_, rfl, ?_⟩; have n0_ := Aside0.mk (hb); have n1_ := Aside0.mk (hi); clear HB; clear HI205; have HB := n0_; have HI205 := n1_; clear n0_ n1_; (try clear hb); (try clear hb2); (try clear hk); (try clear hi)) | ((with_reducible refine gate_dst (N := 26) rfl ?_); refine Kd.R_lit (Kd.int .i64) _ 3 ?hg (N := 26) ?hd (xs := ([0, 10000, 100000, 200000, (-1), 200001] : List Int)) (inner := [.int .i64 0, .int .i64 10000, .int .i64 100000, .int .i64 200000, .int .i64 (-1), .int .i64 200001]) (ok := fun _ => True) (okp := fun _ => True) ?hr ?hp (fun _ hk => hk) trivial (Below.refl _ _) (Nat.le_refl _) (by simp) ?_; (case hd => rfl); (case hg => rfl); (case hr => first | (go_simp; done) | (go_simp; rfl)); (case hp => exact (Reps.one (show Kd.M (Kd.int .i64) _ _ _ 0 [.int .i64 0] from rfl) (Reps.one (show Kd.M (Kd.int .i64) _ _ _ 10000 [.int .i64 10000] from rfl) (Reps.one (show Kd.M (Kd.int .i64) _ _ _ 100000 [.int .i64 100000] from rfl) (Reps.one (show Kd.M (Kd.int .i64) _ _ _ 200000 [.int .i64 200000] from rfl) (Reps.one (show Kd.M (Kd.int .i64) _ _ _ (-1) [.int .i64 (-1)] from rfl) (Reps.one (show Kd.M (Kd.int .i64) _ _ _ 200001 [.int .i64 200001] from rfl) (Reps.none _ _)))))))); intro v212 w10 ho11 hb hg_ hnew_; clear hg_ hnew_; (first | rw [← Ny211.out] at ho11 | (simp only [Int.reduceToNat] at ho11; rw [← Ny211.out] at ho11)); have n0_ := Aside0.mk (Kd.R_lower ho11 (below_size (by repeat (first | (with_reducible first | exact HB.out | apply below_alloc | apply pw_below_drewN | apply below_drew1 | refine below_set ?_ (IsS25.ge HI205.out)) | exact HB.out)))); have n1_ := Aside0.mk (IsS25.below (by repeat (first | (with_reducible first | exact HI205.out | apply IsS25.alloc | apply IsS25.drewN | apply IsS25.drew | apply IsS25.set_1) | exact HI205.out)) hb); have n2_ := Aside0.mk (below_step (by repeat (first | (with_reducible first | exact HB.out | apply below_alloc | apply pw_below_drewN | apply below_drew1 | refine below_set ?_ (IsS25.ge HI205.out)) | exact HB.out)) hb); clear HI205; clear HB; have HO213 := n0_; have HI205 := n1_; have HB := n2_; clear n0_ n1_ n2_; clear hb ho11; obtain ⟨Ao12, co12, eo12⟩ := Kd.R_slice HO213.out; subst eo12) | ((with_reducible refine gate_callee (f := 8) rfl ?_); refine goesL_ (some 27) rfl rfl Try.func8 (by kernel_rfl) rfl #[.pointer (some ⟨gb205, 0, none⟩), .slice Ao12 y211.length co12] rfl (by (try simp only [List.map_toArray, List.map_cons, List.map_nil]); first | done | rfl | (simp only [List.length_drop, List.length_take]; rfl)) ?_; (with_reducible refine (pilemake_Stream_Pick.calls gb205 l0 t210 _ _ y211 t214 t215 w _ ?side1 ?side2 ?side3 ?side4 ?side5 A4.out).mono ?_); (case side1 => repeat (first | (with_reducible first | exact HI205.out | apply IsS25.alloc | apply IsS25.drewN | apply IsS25.drew | apply IsS25.set_1) | exact HI205.out)); (case side2 => repeat (first | (with_reducible first | exact HB.out | apply below_alloc | apply pw_below_drewN | apply below_drew1 | refine below_set ?_ (IsS25.ge HI205.out)) | exact HB.out)); (case side3 => repeat (first | exact (Kd.R_reads' HO213.out).2.2 | (with_reducible refine Kd.C_alloc ?_ _) | (with_reducible refine Kd.C_drewN ?_ _) | (with_reducible refine Kd.C_drew ?_))); (case side4 => exact (Kd.R_reads' HO213.out).2.1); (case side5 => exact far_slice (IsS25.own_ne HI205.out HO213.out (by decide))); rintro e w13 ⟨rfl, hi, hb, hk⟩; refine ⟨_, rfl, ?_⟩; have n0_ := Aside0.mk (Kd.R_mono (Kd.R_keep (IsS25.apart (show IsS25 w _ gb205 l0 t210 from by repeat (first | (with_reducible first | exact HI205.out | apply IsS25.alloc | apply IsS25.drewN | apply IsS25.drew | apply IsS25.set_1) | exact HI205.out)) (by (with_reducible repeat (first | apply Kd.R_alloc | apply Kd.R_drewN | apply Kd.R_drew)); exact HO213.out) (by decide)) hk (fun _ h => h.2)) (fun _ h => h.1)); have n1_ := Aside0.mk (hb); have n2_ := Aside0.mk (hi); clear HO213; clear HB; clear HI205; have HO213 := n0_; have HB := n1_; have HI205 := n2_; clear n0_ n1_ n2_; (try clear hb); (try clear hb2); (try clear hk); (try clear hi)) | ((with_reducible refine gate_dst (N := 4) rfl ?_); refine box_event ?hg (N := 4) ?hd (cs := #[.int .i64 0, .int .i64 0]) (t := 27) ?hr ?_; (case hd => rfl); (case hg => rfl); (case hr => first | (go_simp; done) | (go_simp; rfl)); intro gb216 hg w14 hbox hb; have n0_ := Aside0.mk (Kd.R_below (by (with_reducible repeat (first | apply Kd.R_alloc | apply Kd.R_drewN | apply Kd.R_drew)); exact HO213.out) hb); have n1_ := Aside0.mk (IsS25.below (by repeat (first | (with_reducible first | exact HI205.out | apply IsS25.alloc | apply IsS25.drewN | apply IsS25.drew | apply IsS25.set_1) | exact HI205.out)) hb); have n2_ := Aside0.mk (below_step (by repeat (first | (with_reducible first | exact HB.out | apply below_alloc | apply pw_below_drewN | apply below_drew1 | refine below_set ?_ (IsS25.ge HI205.out)) | exact HB.out)) hb); have n3_ := Aside0.mk (hbox); have n4_ := Aside0.mk ((by rw [hg]; exact (below_size (by repeat (first | (with_reducible first | exact HB.out | apply below_alloc | apply pw_below_drewN | apply below_drew1 | refine below_set ?_ (IsS25.ge HI205.out)) | exact HB.out))) : w.heap.size ≤ gb216)); have n5_ := Aside0.mk ((by rw [hg]; exact (below_size (by repeat (first | (with_reducible first | exact HB.out | apply below_alloc | apply pw_below_drewN | apply below_drew1 | refine below_set ?_ (IsS25.ge HI205.out)) | exact HB.out))) : w.heap.size ≤ gb216)); have n6_ := Aside0.mk ((by rw [hg]; exact Nat.ne_of_lt (IsS25.lt (show IsS25 w _ gb205 l0 t215 from by repeat (first | (with_reducible first | exact HI205.out | apply IsS25.alloc | apply IsS25.drewN | apply IsS25.drew | apply IsS25.set_1) | exact HI205.out))) : gb205 ≠ gb216)); have n7_ := Aside0.mk ((by rw [hg]; exact Nat.ne_of_gt (IsS25.lt (show IsS25 w _ gb205 l0 t215 from by repeat (first | (with_reducible first | exact HI205.out | apply IsS25.alloc | apply IsS25.drewN | apply IsS25.drew | apply IsS25.set_1) | exact HI205.out))) : gb216 ≠ gb205)); clear HO213; clear HI205; clear HB; have HO213 := n0_; have HI205 := n1_; have HB := n2_; have BK216 := n3_; have GW216 := n4_; have GE216 := n5_; have NB205_216 := n6_; have NB216_205 := n7_; clear n0_ n1_ n2_ n3_ n4_ n5_ n6_ n7_; clear hb hbox hg; have hnb15 := NB216_205.out; have hnc15 := NB205_216.out; have hcz16_0 : w14.cell? ⟨gb216, 0, none⟩ = some (.int .i64 0) := (blk_cell BK216.out 0).trans rfl; have hcz16_1 : w14.cell? ⟨gb216, 1, none⟩ = some (.int .i64 0) := (blk_cell BK216.out 1).trans rfl; have hfz16_0 := blk_frozen BK216.out 0; have hfz16_1 := blk_frozen BK216.out 1) | ((with_reducible refine gate_callee (f := 9) rfl ?_); refine goesL_ (some 29) rfl rfl Try.func9 (by kernel_rfl) rfl #[.pointer (some ⟨gb205, 0, none⟩), .int .i64 20] rfl (by (try simp only [List.map_toArray, List.map_cons, List.map_nil]); first | done | rfl | (simp only [List.length_drop, List.length_take]; rfl)) ?_; (with_reducible refine (pilemake_Stream_Flip.calls gb205 l0 t215 20 t217 t218 w _ ?side1 ?side2 A5.out).mono ?_); (case side1 => repeat (first | (with_reducible first | exact HI205.out | apply IsS25.alloc | apply IsS25.drewN | apply IsS25.drew | apply IsS25.set_1 | refine IsS25.far ?_ NB205_216.out _) | exact HI205.out)); (case side2 => repeat (first | (with_reducible first | exact HB.out | apply below_alloc | apply pw_below_drewN | apply below_drew1 | refine below_set ?_ (IsS25.ge HI205.out) | refine below_set ?_ GE216.out) | exact HB.out)); rintro e w17 ⟨rfl, hi, hb, hk⟩; refine ⟨_, rfl, ?_⟩; have n0_ := Aside0.mk (Kd.R_mono (Kd.R_keep (IsS25.apart (show IsS25 w _ gb205 l0 t215 from by repeat (first | (with_reducible first | exact HI205.out | apply IsS25.alloc | apply IsS25.drewN | apply IsS25.drew | apply IsS25.set_1 | refine IsS25.far ?_ NB205_216.out _) | exact HI205.out)) (by (with_reducible repeat (first | apply Kd.R_alloc | apply Kd.R_drewN | apply Kd.R_drew)); exact (Kd.R_mono (Kd.R_far (p := ⟨gb216, 1, none⟩) (Kd.R_far (p := ⟨gb216, 0, none⟩) (Kd.R_types HO213.out BK216.out (by decide)) (fun _ hk => hk.2) (.int .i64 t206)) (fun _ hk => hk.2) (.int .i64 t207)) (fun _ h_ => h_.1))) (by decide)) hk (fun _ h => h.2)) (fun _ h => h.1)); have n1_ := Aside0.mk (KeepBut.blk hk (g' := gb216) (o := .cells #[.int .i64 t206, .int .i64 t207] 27 (0, 0)) (by (with_reducible repeat (first | refine blk_drewN ?_ _ | refine blk_drew ?_ | refine blk_alloc ?_ _)); refine blk_put (cs := #[.int .i64 t206, .int .i64 0]) ?_ 1 _ rfl; (with_reducible repeat (first | refine blk_drewN ?_ _ | refine blk_drew ?_ | refine blk_alloc ?_ _)); refine blk_put (cs := #[.int .i64 0, .int .i64 0]) ?_ 0 _ rfl; (with_reducible repeat (first | refine blk_drewN ?_ _ | refine blk_drew ?_ | refine blk_alloc ?_ _)); exact BK216.out) NB216_205.out (by simp)); have n2_ := Aside0.mk (hb); have n3_ := Aside0.mk (hi); clear HO213; clear BK216; clear HB; clear HI205; have HO213 := n0_; have BK216 := n1_; have HB := n2_; have HI205 := n3_; clear n0_ n1_ n2_ n3_; (try clear hb); (try clear hb2); (try clear hk); (try clear hi)))
  (try simp only [Act.put, List.setIfInBounds_toArray, List.set_cons_zero, List.set_cons_succ])
  go_cut [5] (fun v5 wc => ∃ (kq : Nat) (x5_5 : Int), v5 = .int .i64 x5_5 ∧ Aside0 (pilelaw1_SunFollowed.j0 kq x5_5 t214 t206 t207 = some r) ∧ Aside0 (kq ≤ k) ∧ Aside0 (wc.heap[gb216]? = some (.cells #[.int .i64 t206, .int .i64 t207] 27 (0, 0))) ∧ Aside0 (Below w.heap.size w wc))
  case first =>
    have H := HC6.out
    clear HC6
    by_cases c18 : t217 = true
    · subst c18
      have H1 : ((pilemake_Stream_Pick.f l0 t218 (([(-1), 345686400000] : List Int))).bind fun bt222 => (pilelaw1_SunFollowed.j0 k bt222.1 t214 t206 t207)) = some r := by rw [if_pos rfl] at H; exact H
      clear H
      have H := H1
      clear H1
      obtain ⟨y219, hy219⟩ : ∃ y_ : List Int, y_ = (([(-1), 345686400000] : List Int)) := ⟨_, rfl⟩
      replace H : ((pilemake_Stream_Pick.f l0 t218 y219).bind fun bt222 => (pilelaw1_SunFollowed.j0 k bt222.1 t214 t206 t207)) = some r := by first | (rw [hy219]; with_reducible exact H) | (have H2_ := (Option.bind_some _ _).symm.trans H; rw [hy219]; with_reducible exact H2_) | (have H2_ := (Option.bind_some _ _).symm.trans H; with_reducible exact H2_) | with_reducible exact H | (rw [hy219]; exact H) | exact H
      have Ny219 := Aside0.mk hy219
      clear hy219
      replace H := Option.bind_eq_some_iff.mp H
      obtain ⟨⟨t222, t223⟩, A190, H⟩ := H
      replace H : (pilelaw1_SunFollowed.j0 k t222 t214 t206 t207) = some r := H
      have A19 := Aside0.mk A190
      clear A190
      have H' := Aside0.mk H
      clear H
      go_wp2_with (first | ((with_reducible refine gate_dst (N := 31) rfl ?_); refine Kd.R_lit (Kd.int .i64) _ 3 ?hg (N := 31) ?hd (xs := ([(-1), 345686400000] : List Int)) (inner := [.int .i64 (-1), .int .i64 345686400000]) (ok := fun _ => True) (okp := fun _ => True) ?hr ?hp (fun _ hk => hk) trivial (Below.refl _ _) (Nat.le_refl _) (by simp) ?_; (case hd => rfl); (case hg => rfl); (case hr => first | (go_simp; done) | (go_simp; rfl)); (case hp => exact (Reps.one (show Kd.M (Kd.int .i64) _ _ _ (-1) [.int .i64 (-1)] from rfl) (Reps.one (show Kd.M (Kd.int .i64) _ _ _ 345686400000 [.int .i64 345686400000] from rfl) (Reps.none _ _)))); intro v220 w20 ho21 hb hg_ hnew_; clear hg_ hnew_; (first | rw [← Ny219.out] at ho21 | (simp only [Int.reduceToNat] at ho21; rw [← Ny219.out] at ho21)); have n0_ := Aside0.mk (Kd.R_elder' (by (with_reducible repeat (first | apply Kd.R_alloc | apply Kd.R_drewN | apply Kd.R_drew)); exact HO213.out) (Kd.R_base ho21) hb); have n1_ := Aside0.mk (Kd.R_lower (Kd.R_new' ho21 (Kd.R_lt (by (with_reducible repeat (first | apply Kd.R_alloc | apply Kd.R_drewN | apply Kd.R_drew)); exact HO213.out))) (below_size (by repeat (first | (with_reducible first | exact HB.out | apply below_alloc | apply pw_below_drewN | apply below_drew1 | refine below_set ?_ (IsS25.ge HI205.out) | refine below_set ?_ GE216.out) | exact HB.out)))); have n2_ := Aside0.mk (IsS25.below (by repeat (first | (with_reducible first | exact HI205.out | apply IsS25.alloc | apply IsS25.drewN | apply IsS25.drew | apply IsS25.set_1 | refine IsS25.far ?_ NB205_216.out _) | exact HI205.out)) hb); have n3_ := Aside0.mk (blk_below (g := gb216) (o := .cells #[.int .i64 t206, .int .i64 t207] 27 (0, 0)) (by (with_reducible repeat (first | refine blk_drewN ?_ _ | refine blk_drew ?_ | refine blk_alloc ?_ _)); exact BK216.out) hb); have n4_ := Aside0.mk (below_step (by repeat (first | (with_reducible first | exact HB.out | apply below_alloc | apply pw_below_drewN | apply below_drew1 | refine below_set ?_ (IsS25.ge HI205.out) | refine below_set ?_ GE216.out) | exact HB.out)) hb); clear HO213; clear HI205; clear BK216; clear HB; have HO213 := n0_; have HO221 := n1_; have HI205 := n2_; have BK216 := n3_; have HB := n4_; clear n0_ n1_ n2_ n3_ n4_; clear hb ho21; obtain ⟨Ao22, co22, eo22⟩ := Kd.R_slice HO221.out; subst eo22) | ((with_reducible refine gate_callee (f := 8) rfl ?_); refine goesL_ (some 32) rfl rfl Try.func8 (by kernel_rfl) rfl #[.pointer (some ⟨gb205, 0, none⟩), .slice Ao22 y219.length co22] rfl (by (try simp only [List.map_toArray, List.map_cons, List.map_nil]); first | done | rfl | (simp only [List.length_drop, List.length_take]; rfl)) ?_; (with_reducible refine (pilemake_Stream_Pick.calls gb205 l0 t218 _ _ y219 t222 t223 w _ ?side1 ?side2 ?side3 ?side4 ?side5 A19.out).mono ?_); (case side1 => repeat (first | (with_reducible first | exact HI205.out | apply IsS25.alloc | apply IsS25.drewN | apply IsS25.drew | apply IsS25.set_1 | refine IsS25.far ?_ NB205_216.out _) | exact HI205.out)); (case side2 => repeat (first | (with_reducible first | exact HB.out | apply below_alloc | apply pw_below_drewN | apply below_drew1 | refine below_set ?_ (IsS25.ge HI205.out) | refine below_set ?_ GE216.out) | exact HB.out)); (case side3 => repeat (first | exact (Kd.R_reads' HO221.out).2.2 | (with_reducible refine Kd.C_alloc ?_ _) | (with_reducible refine Kd.C_drewN ?_ _) | (with_reducible refine Kd.C_drew ?_))); (case side4 => exact (Kd.R_reads' HO221.out).2.1); (case side5 => exact far_slice (IsS25.own_ne HI205.out HO221.out (by decide))); rintro e w23 ⟨rfl, hi, hb, hk⟩; refine ⟨_, rfl, ?_⟩; have n0_ := Aside0.mk (Kd.R_mono (Kd.R_keep (IsS25.apart (show IsS25 w _ gb205 l0 t218 from by repeat (first | (with_reducible first | exact HI205.out | apply IsS25.alloc | apply IsS25.drewN | apply IsS25.drew | apply IsS25.set_1 | refine IsS25.far ?_ NB205_216.out _) | exact HI205.out)) (by (with_reducible repeat (first | apply Kd.R_alloc | apply Kd.R_drewN | apply Kd.R_drew)); exact HO213.out) (by decide)) hk (fun _ h => h.2)) (fun _ h => h.1)); have n1_ := Aside0.mk (KeepBut.blk hk (g' := gb216) (o := .cells #[.int .i64 t206, .int .i64 t207] 27 (0, 0)) (by (with_reducible repeat (first | refine blk_drewN ?_ _ | refine blk_drew ?_ | refine blk_alloc ?_ _)); exact BK216.out) NB216_205.out (by simp)); have n2_ := Aside0.mk (Kd.R_mono (Kd.R_keep (IsS25.apart (show IsS25 w _ gb205 l0 t218 from by repeat (first | (with_reducible first | exact HI205.out | apply IsS25.alloc | apply IsS25.drewN | apply IsS25.drew | apply IsS25.set_1 | refine IsS25.far ?_ NB205_216.out _) | exact HI205.out)) (by (with_reducible repeat (first | apply Kd.R_alloc | apply Kd.R_drewN | apply Kd.R_drew)); exact HO221.out) (by decide)) hk (fun _ h => h.2)) (fun _ h => h.1)); have n3_ := Aside0.mk (hb); have n4_ := Aside0.mk (hi); clear HO213; clear BK216; clear HO221; clear HB; clear HI205; have HO213 := n0_; have BK216 := n1_; have HO221 := n2_; have HB := n3_; have HI205 := n4_; clear n0_ n1_ n2_ n3_ n4_; (try clear hb); (try clear hb2); (try clear hk); (try clear hi)))
      go_meet
      case rel => exact ⟨_, (t222), (by first | rfl | (simp; done) | (simp [*]; done)), H', ⟨by first | omega | exact Nat.le_refl _⟩, ⟨by (with_reducible repeat (first | refine blk_drewN ?_ _ | refine blk_drew ?_ | refine blk_alloc ?_ _)); exact BK216.out⟩, ⟨by repeat (first | (with_reducible first | exact HB.out | apply below_alloc | apply pw_below_drewN | apply below_drew1 | refine below_set ?_ (IsS25.ge HI205.out) | refine below_set ?_ GE216.out) | exact HB.out)⟩⟩
    · replace c18 := Bool.eq_false_iff.mpr c18
      subst c18
      have H1 : (pilelaw1_SunFollowed.j0 k t209 t214 t206 t207) = some r := by rw [if_neg (show ¬ (false = true) by decide)] at H; exact H
      clear H
      have H := H1
      clear H1
      have H' := Aside0.mk H
      clear H
      go_wp2
      go_meet
      case rel => exact ⟨_, (t209), (by first | rfl | (simp; done) | (simp [*]; done)), H', ⟨by first | omega | exact Nat.le_refl _⟩, ⟨by (with_reducible repeat (first | refine blk_drewN ?_ _ | refine blk_drew ?_ | refine blk_alloc ?_ _)); exact BK216.out⟩, ⟨by repeat (first | (with_reducible first | exact HB.out | apply below_alloc | apply pw_below_drewN | apply below_drew1 | refine below_set ?_ (IsS25.ge HI205.out) | refine below_set ?_ GE216.out) | exact HB.out)⟩⟩
  case rest =>
    clear HC6
    try clear c1
    try clear p2
    try clear c3
    try clear c6
    try clear c7
    try clear c8
    try clear c9
    try clear c15
    try clear c18
    try clear hcz16_0
    try clear hcz16_1
    try clear hfz16_0
    try clear hfz16_1
    obtain ⟨kq, x5_5, rfl, HA, HJ5, BK216, HB⟩ := hcut
    cases kq with
    | zero => exact absurd HA.out (by simp [pilelaw1_SunFollowed.j0])
    | succ kj5 =>
      have H := HA.out
      clear HA
      simp only [pilelaw1_SunFollowed.j0] at H
      replace H := Option.bind_eq_some_iff.mp H
      obtain ⟨⟨t224, t225⟩, A240, H⟩ := H
      replace H : ((place_Sun.f kj5 t206 t207 x5_5).bind fun bt226 => ((place_Grey.f kj5 t206 t207 x5_5 t214).bind fun bt228 => ((pileref1_MomentFault.f x5_5).bind fun t230 => ((pileref1_SiteFault.f t206 t207).bind fun t231 => ((api_Errno.f kj5 (([t231, t230] : List Int))).bind fun t235 => ((pileref1_SpanFault.f t214 0 200000).bind fun t236 => ((api_Errno.f kj5 (([t235, t236] : List Int))).bind fun t240 => (if t230 = 0 then ((pileref1_TiltOf.f kj5 x5_5).bind fun t241 => (pilelaw1_SunFollowed.j1 kj5 x5_5 t214 t224 t225 bt226.1 bt226.2 bt228.1 bt228.2 t230 t235 t240 t241 0 t206 t207)) else (pilelaw1_SunFollowed.j1 kj5 x5_5 t214 t224 t225 bt226.1 bt226.2 bt228.1 bt228.2 t230 t235 t240 0 0 t206 t207))))))))) = some r := H
      have A24 := Aside0.mk A240
      clear A240
      replace H := Option.bind_eq_some_iff.mp H
      obtain ⟨⟨t226, t227⟩, A250, H⟩ := H
      replace H : ((place_Grey.f kj5 t206 t207 x5_5 t214).bind fun bt228 => ((pileref1_MomentFault.f x5_5).bind fun t230 => ((pileref1_SiteFault.f t206 t207).bind fun t231 => ((api_Errno.f kj5 (([t231, t230] : List Int))).bind fun t235 => ((pileref1_SpanFault.f t214 0 200000).bind fun t236 => ((api_Errno.f kj5 (([t235, t236] : List Int))).bind fun t240 => (if t230 = 0 then ((pileref1_TiltOf.f kj5 x5_5).bind fun t241 => (pilelaw1_SunFollowed.j1 kj5 x5_5 t214 t224 t225 t226 t227 bt228.1 bt228.2 t230 t235 t240 t241 0 t206 t207)) else (pilelaw1_SunFollowed.j1 kj5 x5_5 t214 t224 t225 t226 t227 bt228.1 bt228.2 t230 t235 t240 0 0 t206 t207)))))))) = some r := H
      have A25 := Aside0.mk A250
      clear A250
      replace H := Option.bind_eq_some_iff.mp H
      obtain ⟨⟨t228, t229⟩, A260, H⟩ := H
      replace H : ((pileref1_MomentFault.f x5_5).bind fun t230 => ((pileref1_SiteFault.f t206 t207).bind fun t231 => ((api_Errno.f kj5 (([t231, t230] : List Int))).bind fun t235 => ((pileref1_SpanFault.f t214 0 200000).bind fun t236 => ((api_Errno.f kj5 (([t235, t236] : List Int))).bind fun t240 => (if t230 = 0 then ((pileref1_TiltOf.f kj5 x5_5).bind fun t241 => (pilelaw1_SunFollowed.j1 kj5 x5_5 t214 t224 t225 t226 t227 t228 t229 t230 t235 t240 t241 0 t206 t207)) else (pilelaw1_SunFollowed.j1 kj5 x5_5 t214 t224 t225 t226 t227 t228 t229 t230 t235 t240 0 0 t206 t207))))))) = some r := H
      have A26 := Aside0.mk A260
      clear A260
      replace H := Option.bind_eq_some_iff.mp H
      obtain ⟨t230, A270, H⟩ := H
      replace H : ((pileref1_SiteFault.f t206 t207).bind fun t231 => ((api_Errno.f kj5 (([t231, t230] : List Int))).bind fun t235 => ((pileref1_SpanFault.f t214 0 200000).bind fun t236 => ((api_Errno.f kj5 (([t235, t236] : List Int))).bind fun t240 => (if t230 = 0 then ((pileref1_TiltOf.f kj5 x5_5).bind fun t241 => (pilelaw1_SunFollowed.j1 kj5 x5_5 t214 t224 t225 t226 t227 t228 t229 t230 t235 t240 t241 0 t206 t207)) else (pilelaw1_SunFollowed.j1 kj5 x5_5 t214 t224 t225 t226 t227 t228 t229 t230 t235 t240 0 0 t206 t207)))))) = some r := H
      have A27 := Aside0.mk A270
      clear A270
      replace H := Option.bind_eq_some_iff.mp H
      obtain ⟨t231, A280, H⟩ := H
      replace H : ((api_Errno.f kj5 (([t231, t230] : List Int))).bind fun t235 => ((pileref1_SpanFault.f t214 0 200000).bind fun t236 => ((api_Errno.f kj5 (([t235, t236] : List Int))).bind fun t240 => (if t230 = 0 then ((pileref1_TiltOf.f kj5 x5_5).bind fun t241 => (pilelaw1_SunFollowed.j1 kj5 x5_5 t214 t224 t225 t226 t227 t228 t229 t230 t235 t240 t241 0 t206 t207)) else (pilelaw1_SunFollowed.j1 kj5 x5_5 t214 t224 t225 t226 t227 t228 t229 t230 t235 t240 0 0 t206 t207))))) = some r := H
      have A28 := Aside0.mk A280
      clear A280
      obtain ⟨y232, hy232⟩ : ∃ y_ : List Int, y_ = (([t231, t230] : List Int)) := ⟨_, rfl⟩
      replace H : ((api_Errno.f kj5 y232).bind fun t235 => ((pileref1_SpanFault.f t214 0 200000).bind fun t236 => ((api_Errno.f kj5 (([t235, t236] : List Int))).bind fun t240 => (if t230 = 0 then ((pileref1_TiltOf.f kj5 x5_5).bind fun t241 => (pilelaw1_SunFollowed.j1 kj5 x5_5 t214 t224 t225 t226 t227 t228 t229 t230 t235 t240 t241 0 t206 t207)) else (pilelaw1_SunFollowed.j1 kj5 x5_5 t214 t224 t225 t226 t227 t228 t229 t230 t235 t240 0 0 t206 t207))))) = some r := by first | (rw [hy232]; with_reducible exact H) | (have H2_ := (Option.bind_some _ _).symm.trans H; rw [hy232]; with_reducible exact H2_) | (have H2_ := (Option.bind_some _ _).symm.trans H; with_reducible exact H2_) | with_reducible exact H | (rw [hy232]; exact H) | exact H
      have Ny232 := Aside0.mk hy232
      clear hy232
      replace H := Option.bind_eq_some_iff.mp H
      obtain ⟨t235, A290, H⟩ := H
      replace H : ((pileref1_SpanFault.f t214 0 200000).bind fun t236 => ((api_Errno.f kj5 (([t235, t236] : List Int))).bind fun t240 => (if t230 = 0 then ((pileref1_TiltOf.f kj5 x5_5).bind fun t241 => (pilelaw1_SunFollowed.j1 kj5 x5_5 t214 t224 t225 t226 t227 t228 t229 t230 t235 t240 t241 0 t206 t207)) else (pilelaw1_SunFollowed.j1 kj5 x5_5 t214 t224 t225 t226 t227 t228 t229 t230 t235 t240 0 0 t206 t207)))) = some r := H
      have A29 := Aside0.mk A290
      clear A290
      replace H := Option.bind_eq_some_iff.mp H
      obtain ⟨t236, A300, H⟩ := H
      replace H : ((api_Errno.f kj5 (([t235, t236] : List Int))).bind fun t240 => (if t230 = 0 then ((pileref1_TiltOf.f kj5 x5_5).bind fun t241 => (pilelaw1_SunFollowed.j1 kj5 x5_5 t214 t224 t225 t226 t227 t228 t229 t230 t235 t240 t241 0 t206 t207)) else (pilelaw1_SunFollowed.j1 kj5 x5_5 t214 t224 t225 t226 t227 t228 t229 t230 t235 t240 0 0 t206 t207))) = some r := H
      have A30 := Aside0.mk A300
      clear A300
      obtain ⟨y237, hy237⟩ : ∃ y_ : List Int, y_ = (([t235, t236] : List Int)) := ⟨_, rfl⟩
      replace H : ((api_Errno.f kj5 y237).bind fun t240 => (if t230 = 0 then ((pileref1_TiltOf.f kj5 x5_5).bind fun t241 => (pilelaw1_SunFollowed.j1 kj5 x5_5 t214 t224 t225 t226 t227 t228 t229 t230 t235 t240 t241 0 t206 t207)) else (pilelaw1_SunFollowed.j1 kj5 x5_5 t214 t224 t225 t226 t227 t228 t229 t230 t235 t240 0 0 t206 t207))) = some r := by first | (rw [hy237]; with_reducible exact H) | (have H2_ := (Option.bind_some _ _).symm.trans H; rw [hy237]; with_reducible exact H2_) | (have H2_ := (Option.bind_some _ _).symm.trans H; with_reducible exact H2_) | with_reducible exact H | (rw [hy237]; exact H) | exact H
      have Ny237 := Aside0.mk hy237
      clear hy237
      replace H := Option.bind_eq_some_iff.mp H
      obtain ⟨t240, A310, H⟩ := H
      replace H : (if t230 = 0 then ((pileref1_TiltOf.f kj5 x5_5).bind fun t241 => (pilelaw1_SunFollowed.j1 kj5 x5_5 t214 t224 t225 t226 t227 t228 t229 t230 t235 t240 t241 0 t206 t207)) else (pilelaw1_SunFollowed.j1 kj5 x5_5 t214 t224 t225 t226 t227 t228 t229 t230 t235 t240 0 0 t206 t207)) = some r := H
      have A31 := Aside0.mk A310
      clear A310
      have HC32 := Aside0.mk H
      clear H
      go_upto_if 64 with (first | ((with_reducible refine gate_callee (f := 10) rfl ?_); refine goesL_ (some 35) rfl rfl Try.func10 (by kernel_rfl) rfl #[.int .i64 x5_5] rfl (by (try simp only [List.map_toArray, List.map_cons, List.map_nil]); first | done | rfl | (simp only [List.length_drop, List.length_take]; rfl)) ?_; (with_reducible refine (place_Tilt.calls kj5 x5_5 t224 t225 _ A24.out).mono ?_); rintro e w' ⟨rfl, ⟨nd, rfl⟩⟩; refine ⟨_, rfl, ?_⟩; have hcz33_0 : wc.cell? ⟨gb216, 0, none⟩ = some (.int .i64 t206) := (blk_cell BK216.out 0).trans rfl; have hcz33_1 : wc.cell? ⟨gb216, 1, none⟩ = some (.int .i64 t207) := (blk_cell BK216.out 1).trans rfl; have hfz33_0 := blk_frozen BK216.out 0; have hfz33_1 := blk_frozen BK216.out 1) | ((with_reducible refine gate_callee (f := 11) rfl ?_); refine goesL_ (some 41) rfl rfl Try.func11 (by kernel_rfl) rfl #[.agg #[.int .i64 t206, .int .i64 t207], .int .i64 x5_5] rfl (by (try simp only [List.map_toArray, List.map_cons, List.map_nil]); first | done | rfl | (simp only [List.length_drop, List.length_take]; rfl)) ?_; (with_reducible refine (place_Sun.calls kj5 t206 t207 x5_5 t226 t227 _ A25.out).mono ?_); rintro e w34 ⟨rfl, hb⟩; refine ⟨_, rfl, ?_⟩; have n0_ := Aside0.mk (blk_below (g := gb216) (o := .cells #[.int .i64 t206, .int .i64 t207] 27 (0, 0)) (by (with_reducible repeat (first | refine blk_drewN ?_ _ | refine blk_drew ?_ | refine blk_alloc ?_ _)); exact BK216.out) hb); have n1_ := Aside0.mk (below_step (by repeat (first | (with_reducible first | exact HB.out | apply below_alloc | apply pw_below_drewN | apply below_drew1 | refine below_set ?_ GE216.out) | exact HB.out)) hb); clear BK216; clear HB; have BK216 := n0_; have HB := n1_; clear n0_ n1_; (try clear hb); (try clear hb2); (try clear hk); (try clear hi); have hcz35_0 : w34.cell? ⟨gb216, 0, none⟩ = some (.int .i64 t206) := (blk_cell BK216.out 0).trans rfl; have hcz35_1 : w34.cell? ⟨gb216, 1, none⟩ = some (.int .i64 t207) := (blk_cell BK216.out 1).trans rfl; have hfz35_0 := blk_frozen BK216.out 0; have hfz35_1 := blk_frozen BK216.out 1) | ((with_reducible refine gate_callee (f := 12) rfl ?_); refine goesL_ (some 48) rfl rfl Try.func12 (by kernel_rfl) rfl #[.agg #[.int .i64 t206, .int .i64 t207], .int .i64 x5_5, .int .i64 t214] rfl (by (try simp only [List.map_toArray, List.map_cons, List.map_nil]); first | done | rfl | (simp only [List.length_drop, List.length_take]; rfl)) ?_; (with_reducible refine (place_Grey.calls kj5 t206 t207 x5_5 t214 t228 t229 _ A26.out).mono ?_); rintro e w36 ⟨rfl, hb⟩; refine ⟨_, rfl, ?_⟩; have n0_ := Aside0.mk (blk_below (g := gb216) (o := .cells #[.int .i64 t206, .int .i64 t207] 27 (0, 0)) (by (with_reducible repeat (first | refine blk_drewN ?_ _ | refine blk_drew ?_ | refine blk_alloc ?_ _)); exact BK216.out) hb); have n1_ := Aside0.mk (below_step (by repeat (first | (with_reducible first | exact HB.out | apply below_alloc | apply pw_below_drewN | apply below_drew1 | refine below_set ?_ GE216.out) | exact HB.out)) hb); clear BK216; clear HB; have BK216 := n0_; have HB := n1_; clear n0_ n1_; (try clear hb); (try clear hb2); (try clear hk); (try clear hi)) | ((with_reducible refine gate_callee (f := 13) rfl ?_); refine goesL_ (some 52) rfl rfl Try.func13 (by kernel_rfl) rfl #[.int .i64 x5_5] rfl (by (try simp only [List.map_toArray, List.map_cons, List.map_nil]); first | done | rfl | (simp only [List.length_drop, List.length_take]; rfl)) ?_; (with_reducible refine (pileref1_MomentFault.calls x5_5 t230 _ A27.out).mono ?_); rintro e w' ⟨rfl, ⟨nd, rfl⟩⟩; refine ⟨_, rfl, ?_⟩; have hcz37_0 : w36.cell? ⟨gb216, 0, none⟩ = some (.int .i64 t206) := (blk_cell BK216.out 0).trans rfl; have hcz37_1 : w36.cell? ⟨gb216, 1, none⟩ = some (.int .i64 t207) := (blk_cell BK216.out 1).trans rfl; have hfz37_0 := blk_frozen BK216.out 0; have hfz37_1 := blk_frozen BK216.out 1) | ((with_reducible refine gate_callee (f := 15) rfl ?_); refine goesL_ (some 54) rfl rfl Try.func15 (by kernel_rfl) rfl #[.agg #[.int .i64 t206, .int .i64 t207]] rfl (by (try simp only [List.map_toArray, List.map_cons, List.map_nil]); first | done | rfl | (simp only [List.length_drop, List.length_take]; rfl)) ?_; (with_reducible refine (pileref1_SiteFault.calls t206 t207 t231 _ A28.out).mono ?_); rintro e w38 ⟨rfl, hb⟩; refine ⟨_, rfl, ?_⟩; have n0_ := Aside0.mk (blk_below (g := gb216) (o := .cells #[.int .i64 t206, .int .i64 t207] 27 (0, 0)) (by (with_reducible repeat (first | refine blk_drewN ?_ _ | refine blk_drew ?_ | refine blk_alloc ?_ _)); exact BK216.out) hb); have n1_ := Aside0.mk (below_step (by repeat (first | (with_reducible first | exact HB.out | apply below_alloc | apply pw_below_drewN | apply below_drew1 | refine below_set ?_ GE216.out) | exact HB.out)) hb); clear BK216; clear HB; have BK216 := n0_; have HB := n1_; clear n0_ n1_; (try clear hb); (try clear hb2); (try clear hk); (try clear hi)) | ((with_reducible refine gate_dst (N := 56) rfl ?_); refine Kd.R_lit (Kd.int .i64) _ 32 ?hg (N := 56) ?hd (xs := ([t231, t230] : List Int)) (inner := [.int .i64 t231, .int .i64 t230]) (ok := fun _ => True) (okp := fun _ => True) ?hr ?hp (fun _ hk => hk) trivial (Below.refl _ _) (Nat.le_refl _) (by simp) ?_; (case hd => rfl); (case hg => rfl); (case hr => first | (go_simp; done) | (go_simp; rfl)); (case hp => exact (Reps.one (show Kd.M (Kd.int .i64) _ _ _ t231 [.int .i64 t231] from rfl) (Reps.one (show Kd.M (Kd.int .i64) _ _ _ t230 [.int .i64 t230] from rfl) (Reps.none _ _)))); intro v233 w39 ho40 hb hg_ hnew_; clear hg_ hnew_; (first | rw [← Ny232.out] at ho40 | (simp only [Int.reduceToNat] at ho40; rw [← Ny232.out] at ho40)); have n0_ := Aside0.mk (Kd.R_lower ho40 (below_size (by repeat (first | (with_reducible first | exact HB.out | apply below_alloc | apply pw_below_drewN | apply below_drew1 | refine below_set ?_ GE216.out) | exact HB.out)))); have n1_ := Aside0.mk (blk_below (g := gb216) (o := .cells #[.int .i64 t206, .int .i64 t207] 27 (0, 0)) (by (with_reducible repeat (first | refine blk_drewN ?_ _ | refine blk_drew ?_ | refine blk_alloc ?_ _)); exact BK216.out) hb); have n2_ := Aside0.mk (below_step (by repeat (first | (with_reducible first | exact HB.out | apply below_alloc | apply pw_below_drewN | apply below_drew1 | refine below_set ?_ GE216.out) | exact HB.out)) hb); clear BK216; clear HB; have HO234 := n0_; have BK216 := n1_; have HB := n2_; clear n0_ n1_ n2_; clear hb ho40; obtain ⟨Ao41, co41, eo41⟩ := Kd.R_slice HO234.out; subst eo41) | ((with_reducible refine gate_callee (f := 14) rfl ?_); refine goesL_ (some 57) rfl rfl Try.func14 (by kernel_rfl) rfl #[.slice Ao41 y232.length co41] rfl (by (try simp only [List.map_toArray, List.map_cons, List.map_nil]); first | done | rfl | (simp only [List.length_drop, List.length_take]; rfl)) ?_; (with_reducible refine (api_Errno.calls kj5 _ _ y232 t235 _ ?side1 ?side2 A29.out).mono ?_); (case side1 => repeat (first | exact (Kd.R_reads' HO234.out).2.2 | (with_reducible refine Kd.C_alloc ?_ _) | (with_reducible refine Kd.C_drewN ?_ _) | (with_reducible refine Kd.C_drew ?_))); (case side2 => exact (Kd.R_reads' HO234.out).2.1); rintro e w' ⟨rfl, ⟨nd, rfl⟩⟩; refine ⟨_, rfl, ?_⟩) | ((with_reducible refine gate_callee (f := 16) rfl ?_); refine goesL_ (some 60) rfl rfl Try.func16 (by kernel_rfl) rfl #[.int .i64 t214, .int .i64 0, .int .i64 200000] rfl (by (try simp only [List.map_toArray, List.map_cons, List.map_nil]); first | done | rfl | (simp only [List.length_drop, List.length_take]; rfl)) ?_; (with_reducible refine (pileref1_SpanFault.calls t214 0 200000 t236 _ A30.out).mono ?_); rintro e w' ⟨rfl, ⟨nd, rfl⟩⟩; refine ⟨_, rfl, ?_⟩) | ((with_reducible refine gate_dst (N := 61) rfl ?_); refine Kd.R_lit (Kd.int .i64) _ 32 ?hg (N := 61) ?hd (xs := ([t235, t236] : List Int)) (inner := [.int .i64 t235, .int .i64 t236]) (ok := fun _ => True) (okp := fun _ => True) ?hr ?hp (fun _ hk => hk) trivial (Below.refl _ _) (Nat.le_refl _) (by simp) ?_; (case hd => rfl); (case hg => rfl); (case hr => first | (go_simp; done) | (go_simp; rfl)); (case hp => exact (Reps.one (show Kd.M (Kd.int .i64) _ _ _ t235 [.int .i64 t235] from rfl) (Reps.one (show Kd.M (Kd.int .i64) _ _ _ t236 [.int .i64 t236] from rfl) (Reps.none _ _)))); intro v238 w42 ho43 hb hg_ hnew_; clear hg_ hnew_; (first | rw [← Ny237.out] at ho43 | (simp only [Int.reduceToNat] at ho43; rw [← Ny237.out] at ho43)); have n0_ := Aside0.mk (Kd.R_elder' (by (with_reducible repeat (first | apply Kd.R_alloc | apply Kd.R_drewN | apply Kd.R_drew)); exact HO234.out) (Kd.R_base ho43) hb); have n1_ := Aside0.mk (Kd.R_lower (Kd.R_new' ho43 (Kd.R_lt (by (with_reducible repeat (first | apply Kd.R_alloc | apply Kd.R_drewN | apply Kd.R_drew)); exact HO234.out))) (below_size (by repeat (first | (with_reducible first | exact HB.out | apply below_alloc | apply pw_below_drewN | apply below_drew1 | refine below_set ?_ GE216.out) | exact HB.out)))); have n2_ := Aside0.mk (blk_below (g := gb216) (o := .cells #[.int .i64 t206, .int .i64 t207] 27 (0, 0)) (by (with_reducible repeat (first | refine blk_drewN ?_ _ | refine blk_drew ?_ | refine blk_alloc ?_ _)); exact BK216.out) hb); have n3_ := Aside0.mk (below_step (by repeat (first | (with_reducible first | exact HB.out | apply below_alloc | apply pw_below_drewN | apply below_drew1 | refine below_set ?_ GE216.out) | exact HB.out)) hb); clear HO234; clear BK216; clear HB; have HO234 := n0_; have HO239 := n1_; have BK216 := n2_; have HB := n3_; clear n0_ n1_ n2_ n3_; clear hb ho43; obtain ⟨Ao44, co44, eo44⟩ := Kd.R_slice HO239.out; subst eo44) | ((with_reducible refine gate_callee (f := 14) rfl ?_); refine goesL_ (some 62) rfl rfl Try.func14 (by kernel_rfl) rfl #[.slice Ao44 y237.length co44] rfl (by (try simp only [List.map_toArray, List.map_cons, List.map_nil]); first | done | rfl | (simp only [List.length_drop, List.length_take]; rfl)) ?_; (with_reducible refine (api_Errno.calls kj5 _ _ y237 t240 _ ?side1 ?side2 A31.out).mono ?_); (case side1 => repeat (first | exact (Kd.R_reads' HO239.out).2.2 | (with_reducible refine Kd.C_alloc ?_ _) | (with_reducible refine Kd.C_drewN ?_ _) | (with_reducible refine Kd.C_drew ?_))); (case side2 => exact (Kd.R_reads' HO239.out).2.1); rintro e w' ⟨rfl, ⟨nd, rfl⟩⟩; refine ⟨_, rfl, ?_⟩))
      (try simp only [Act.put, List.setIfInBounds_toArray, List.set_cons_zero, List.set_cons_succ])
      go_cut [16] (fun v16 wc => ∃ (kq : Nat) (x16_31 : Int), v16 = .int .i64 x16_31 ∧ Aside0 (pilelaw1_SunFollowed.j1 kq x5_5 t214 t224 t225 t226 t227 t228 t229 t230 t235 t240 x16_31 0 t206 t207 = some r) ∧ Aside0 (kq ≤ kj5) ∧ Aside0 (wc.heap[gb216]? = some (.cells #[.int .i64 t206, .int .i64 t207] 27 (0, 0))) ∧ Aside0 (Below w.heap.size w wc))
      case first =>
        have H := HC32.out
        clear HC32
        by_cases c45 : t230 = 0
        · rw [if_pos c45] at H
          have c45b0 : (t230 == 0) = true := beq_iff_eq.mpr c45
          have c45b1 : (t230 != 0) = false := bne_eq_false_iff_eq.mpr c45
          clear c45
          (first | rw [c45b0] | (simp only [i64_w, i32_w]; rw [c45b0]) | skip)
          replace H := Option.bind_eq_some_iff.mp H
          obtain ⟨t241, A460, H⟩ := H
          replace H : (pilelaw1_SunFollowed.j1 kj5 x5_5 t214 t224 t225 t226 t227 t228 t229 t230 t235 t240 t241 0 t206 t207) = some r := H
          have A46 := Aside0.mk A460
          clear A460
          have H' := Aside0.mk H
          clear H
          go_wp2_with (first | ((with_reducible refine gate_callee (f := 17) rfl ?_); refine goesL_ (some 66) rfl rfl Try.func17 (by kernel_rfl) rfl #[.int .i64 x5_5] rfl (by (try simp only [List.map_toArray, List.map_cons, List.map_nil]); first | done | rfl | (simp only [List.length_drop, List.length_take]; rfl)) ?_; (with_reducible refine (pileref1_TiltOf.calls kj5 x5_5 t241 _ A46.out).mono ?_); rintro e w47 ⟨rfl, hb⟩; refine ⟨_, rfl, ?_⟩; have n0_ := Aside0.mk (Kd.R_below (by (with_reducible repeat (first | apply Kd.R_alloc | apply Kd.R_drewN | apply Kd.R_drew)); exact HO234.out) hb); have n1_ := Aside0.mk (Kd.R_below (by (with_reducible repeat (first | apply Kd.R_alloc | apply Kd.R_drewN | apply Kd.R_drew)); exact HO239.out) hb); have n2_ := Aside0.mk (blk_below (g := gb216) (o := .cells #[.int .i64 t206, .int .i64 t207] 27 (0, 0)) (by (with_reducible repeat (first | refine blk_drewN ?_ _ | refine blk_drew ?_ | refine blk_alloc ?_ _)); exact BK216.out) hb); have n3_ := Aside0.mk (below_step (by repeat (first | (with_reducible first | exact HB.out | apply below_alloc | apply pw_below_drewN | apply below_drew1 | refine below_set ?_ GE216.out) | exact HB.out)) hb); clear HO234; clear HO239; clear BK216; clear HB; have HO234 := n0_; have HO239 := n1_; have BK216 := n2_; have HB := n3_; clear n0_ n1_ n2_ n3_; (try clear hb); (try clear hb2); (try clear hk); (try clear hi)))
          go_meet
          case rel => exact ⟨_, (t241), (by first | rfl | (simp; done) | (simp [*]; done)), H', ⟨by have := HJ5.out; first | omega | exact Nat.le_refl _⟩, ⟨by (with_reducible repeat (first | refine blk_drewN ?_ _ | refine blk_drew ?_ | refine blk_alloc ?_ _)); exact BK216.out⟩, ⟨by repeat (first | (with_reducible first | exact HB.out | apply below_alloc | apply pw_below_drewN | apply below_drew1 | refine below_set ?_ GE216.out) | exact HB.out)⟩⟩
        · rw [if_neg c45] at H
          have c45b0 : (t230 == 0) = false := beq_eq_false_iff_ne.mpr c45
          have c45b1 : (t230 != 0) = true := bne_iff_ne.mpr c45
          (first | rw [c45b0] | (simp only [i64_w, i32_w]; rw [c45b0]) | skip)
          have H' := Aside0.mk H
          clear H
          go_wp2
          go_meet
          case rel => exact ⟨_, (0), (by first | rfl | (simp; done) | (simp [*]; done)), H', ⟨by have := HJ5.out; first | omega | exact Nat.le_refl _⟩, ⟨by (with_reducible repeat (first | refine blk_drewN ?_ _ | refine blk_drew ?_ | refine blk_alloc ?_ _)); exact BK216.out⟩, ⟨by repeat (first | (with_reducible first | exact HB.out | apply below_alloc | apply pw_below_drewN | apply below_drew1 | refine below_set ?_ GE216.out) | exact HB.out)⟩⟩
      case rest =>
        clear HC32
        try clear c1
        try clear p2
        try clear c3
        try clear c4
        try clear c6
        try clear c7
        try clear c8
        try clear c9
        try clear c10
        try clear c11
        try clear c12
        try clear c13
        try clear c14
        try clear c15
        try clear c16
        try clear c17
        try clear c18
        try clear c45
        try clear c45b0
        try clear c45b1
        try clear hcz16_0
        try clear hcz16_1
        try clear hcz33_0
        try clear hcz33_1
        try clear hcz35_0
        try clear hcz35_1
        try clear hcz37_0
        try clear hcz37_1
        try clear hfz16_0
        try clear hfz16_1
        try clear hfz33_0
        try clear hfz33_1
        try clear hfz35_0
        try clear hfz35_1
        try clear hfz37_0
        try clear hfz37_1
        try clear p2
        obtain ⟨kq, x16_31, rfl, HA, HJ31, BK216, HB⟩ := hcut
        cases kq with
        | zero => exact absurd HA.out (by simp [pilelaw1_SunFollowed.j1])
        | succ kj31 =>
          have H := HA.out
          clear HA
          simp only [pilelaw1_SunFollowed.j1] at H
          by_cases c48 : t235 = 0
          · rw [if_pos c48] at H
            have c48b0 : (t235 == 0) = true := beq_iff_eq.mpr c48
            have c48b1 : (t235 != 0) = false := bne_eq_false_iff_eq.mpr c48
            clear c48
            replace H := Option.bind_eq_some_iff.mp H
            obtain ⟨t242, A490, H⟩ := H
            replace H : (if t225 = t230 then (if t224 = x16_31 then (if t227 = t235 then (if t226 = t242 then (if t229 = t240 then (if t240 = 0 then ((pileref1_GreyAt.f kj31 t206 t207 x5_5 t214).bind fun t243 => (if (t228 == t243) = true then ((pilelaw1_placed.f kj31).bind fun t244 => (some t244)) else (some false))) else (if (t228 == false) = true then ((pilelaw1_placed.f kj31).bind fun t245 => (some t245)) else (some false))) else (some false)) else (some false)) else (some false)) else (some false)) else (some false)) = some r := H
            have A49 := Aside0.mk A490
            clear A490
            by_cases c50 : t225 = t230
            · rw [if_pos c50] at H
              have c50b0 : (t225 == t230) = true := beq_iff_eq.mpr c50
              have c50b1 : (t225 != t230) = false := bne_eq_false_iff_eq.mpr c50
              clear c50
              by_cases c51 : t224 = x16_31
              · rw [if_pos c51] at H
                have c51b0 : (t224 == x16_31) = true := beq_iff_eq.mpr c51
                have c51b1 : (t224 != x16_31) = false := bne_eq_false_iff_eq.mpr c51
                clear c51
                by_cases c52 : t227 = t235
                · rw [if_pos c52] at H
                  have c52b0 : (t227 == t235) = true := beq_iff_eq.mpr c52
                  have c52b1 : (t227 != t235) = false := bne_eq_false_iff_eq.mpr c52
                  clear c52
                  by_cases c53 : t226 = t242
                  · rw [if_pos c53] at H
                    have c53b0 : (t226 == t242) = true := beq_iff_eq.mpr c53
                    have c53b1 : (t226 != t242) = false := bne_eq_false_iff_eq.mpr c53
                    clear c53
                    by_cases c54 : t229 = t240
                    · rw [if_pos c54] at H
                      have c54b0 : (t229 == t240) = true := beq_iff_eq.mpr c54
                      have c54b1 : (t229 != t240) = false := bne_eq_false_iff_eq.mpr c54
                      clear c54
                      by_cases c55 : t240 = 0
                      · rw [if_pos c55] at H
                        have c55b0 : (t240 == 0) = true := beq_iff_eq.mpr c55
                        have c55b1 : (t240 != 0) = false := bne_eq_false_iff_eq.mpr c55
                        clear c55
                        replace H := Option.bind_eq_some_iff.mp H
                        obtain ⟨t243, A560, H⟩ := H
                        replace H : (if (t228 == t243) = true then ((pilelaw1_placed.f kj31).bind fun t244 => (some t244)) else (some false)) = some r := H
                        have A56 := Aside0.mk A560
                        clear A560
                        by_cases c57 : (t228 == t243) = true
                        · rw [if_pos c57] at H
                          have c57b0 : (t228 == t243) = true := c57
                          (try (have c57b1 : decide (t228 = t243) = true := by simpa using c57))
                          (try (have c57b2 : (t228 == t243) = true := by simpa using c57))
                          clear c57
                          replace H := Option.bind_eq_some_iff.mp H
                          obtain ⟨t244, A580, H⟩ := H
                          replace H : (some t244) = some r := H
                          have A58 := Aside0.mk A580
                          clear A580
                          obtain rfl := Option.some.inj H
                          have hcz59_0 : wc.cell? ⟨gb216, 0, none⟩ = some (.int .i64 t206) := (blk_cell BK216.out 0).trans rfl
                          have hcz59_1 : wc.cell? ⟨gb216, 1, none⟩ = some (.int .i64 t207) := (blk_cell BK216.out 1).trans rfl
                          have hfz59_0 := blk_frozen BK216.out 0
                          have hfz59_1 := blk_frozen BK216.out 1
                          go_wp2_with (first | ((with_reducible refine gate_callee (f := 18) rfl ?_); refine goesL_ (some 71) rfl rfl Try.func18 (by kernel_rfl) rfl #[.agg #[.int .i64 t206, .int .i64 t207], .int .i64 x5_5] rfl (by (try simp only [List.map_toArray, List.map_cons, List.map_nil]); first | done | rfl | (simp only [List.length_drop, List.length_take]; rfl)) ?_; (with_reducible refine (pileref1_SunOf.calls kj31 t206 t207 x5_5 t242 _ A49.out).mono ?_); rintro e w60 ⟨rfl, hb⟩; refine ⟨_, rfl, ?_⟩; have n0_ := Aside0.mk (blk_below (g := gb216) (o := .cells #[.int .i64 t206, .int .i64 t207] 27 (0, 0)) (by (with_reducible repeat (first | refine blk_drewN ?_ _ | refine blk_drew ?_ | refine blk_alloc ?_ _)); exact BK216.out) hb); have n1_ := Aside0.mk (below_step (by repeat (first | (with_reducible first | exact HB.out | apply below_alloc | apply pw_below_drewN | apply below_drew1 | refine below_set ?_ GE216.out) | exact HB.out)) hb); clear BK216; clear HB; have BK216 := n0_; have HB := n1_; clear n0_ n1_; (try clear hb); (try clear hb2); (try clear hk); (try clear hi); have hcz61_0 : w60.cell? ⟨gb216, 0, none⟩ = some (.int .i64 t206) := (blk_cell BK216.out 0).trans rfl; have hcz61_1 : w60.cell? ⟨gb216, 1, none⟩ = some (.int .i64 t207) := (blk_cell BK216.out 1).trans rfl; have hfz61_0 := blk_frozen BK216.out 0; have hfz61_1 := blk_frozen BK216.out 1) | (go_at_call 19; (with_reducible refine (pileref1_GreyAt.calls kj31 t206 t207 x5_5 t214 t243 _ A56.out).mono ?_); rintro e w62 ⟨rfl, hb⟩; have n0_ := Aside0.mk (blk_below (g := gb216) (o := .cells #[.int .i64 t206, .int .i64 t207] 27 (0, 0)) (by (with_reducible repeat (first | refine blk_drewN ?_ _ | refine blk_drew ?_ | refine blk_alloc ?_ _)); exact BK216.out) hb); have n1_ := Aside0.mk (below_step (by repeat (first | (with_reducible first | exact HB.out | apply below_alloc | apply pw_below_drewN | apply below_drew1 | refine below_set ?_ GE216.out) | exact HB.out)) hb); clear BK216; clear HB; have BK216 := n0_; have HB := n1_; clear n0_ n1_; (try clear hb); (try clear hb2); (try clear hk); (try clear hi)) | (go_at_call 20; (with_reducible refine (pilelaw1_placed.calls kj31  t244 _ A58.out).mono ?_); rintro e w' ⟨rfl, ⟨nd, rfl⟩⟩))
                          go_ret
                          exact ⟨by first | rfl | (simp [errW_none, errW_some] <;> rfl) | (simp [*, errW_none, errW_some] <;> rfl), by repeat (first | (with_reducible first | exact HB.out | apply below_alloc | apply pw_below_drewN | apply below_drew1 | refine below_set ?_ GE216.out) | exact HB.out)⟩
                        · rw [if_neg c57] at H
                          have c57b0 : (t228 == t243) = false := by simpa using c57
                          (try (have c57b1 : decide (t228 = t243) = false := by simpa using c57))
                          (try (have c57b2 : (t228 == t243) = false := by simpa using c57))
                          (try (have c57b3 : ¬ (t228 = t243) := by simpa using c57))
                          clear c57
                          obtain rfl := Option.some.inj H
                          have hcz63_0 : wc.cell? ⟨gb216, 0, none⟩ = some (.int .i64 t206) := (blk_cell BK216.out 0).trans rfl
                          have hcz63_1 : wc.cell? ⟨gb216, 1, none⟩ = some (.int .i64 t207) := (blk_cell BK216.out 1).trans rfl
                          have hfz63_0 := blk_frozen BK216.out 0
                          have hfz63_1 := blk_frozen BK216.out 1
                          go_wp2_with (first | ((with_reducible refine gate_callee (f := 18) rfl ?_); refine goesL_ (some 71) rfl rfl Try.func18 (by kernel_rfl) rfl #[.agg #[.int .i64 t206, .int .i64 t207], .int .i64 x5_5] rfl (by (try simp only [List.map_toArray, List.map_cons, List.map_nil]); first | done | rfl | (simp only [List.length_drop, List.length_take]; rfl)) ?_; (with_reducible refine (pileref1_SunOf.calls kj31 t206 t207 x5_5 t242 _ A49.out).mono ?_); rintro e w64 ⟨rfl, hb⟩; refine ⟨_, rfl, ?_⟩; have n0_ := Aside0.mk (blk_below (g := gb216) (o := .cells #[.int .i64 t206, .int .i64 t207] 27 (0, 0)) (by (with_reducible repeat (first | refine blk_drewN ?_ _ | refine blk_drew ?_ | refine blk_alloc ?_ _)); exact BK216.out) hb); have n1_ := Aside0.mk (below_step (by repeat (first | (with_reducible first | exact HB.out | apply below_alloc | apply pw_below_drewN | apply below_drew1 | refine below_set ?_ GE216.out) | exact HB.out)) hb); clear BK216; clear HB; have BK216 := n0_; have HB := n1_; clear n0_ n1_; (try clear hb); (try clear hb2); (try clear hk); (try clear hi); have hcz65_0 : w64.cell? ⟨gb216, 0, none⟩ = some (.int .i64 t206) := (blk_cell BK216.out 0).trans rfl; have hcz65_1 : w64.cell? ⟨gb216, 1, none⟩ = some (.int .i64 t207) := (blk_cell BK216.out 1).trans rfl; have hfz65_0 := blk_frozen BK216.out 0; have hfz65_1 := blk_frozen BK216.out 1) | (go_at_call 19; (with_reducible refine (pileref1_GreyAt.calls kj31 t206 t207 x5_5 t214 t243 _ A56.out).mono ?_); rintro e w66 ⟨rfl, hb⟩; have n0_ := Aside0.mk (blk_below (g := gb216) (o := .cells #[.int .i64 t206, .int .i64 t207] 27 (0, 0)) (by (with_reducible repeat (first | refine blk_drewN ?_ _ | refine blk_drew ?_ | refine blk_alloc ?_ _)); exact BK216.out) hb); have n1_ := Aside0.mk (below_step (by repeat (first | (with_reducible first | exact HB.out | apply below_alloc | apply pw_below_drewN | apply below_drew1 | refine below_set ?_ GE216.out) | exact HB.out)) hb); clear BK216; clear HB; have BK216 := n0_; have HB := n1_; clear n0_ n1_; (try clear hb); (try clear hb2); (try clear hk); (try clear hi)))
                          go_ret
                          exact ⟨by first | rfl | (simp [errW_none, errW_some] <;> rfl) | (simp [*, errW_none, errW_some] <;> rfl), by repeat (first | (with_reducible first | exact HB.out | apply below_alloc | apply pw_below_drewN | apply below_drew1 | refine below_set ?_ GE216.out) | exact HB.out)⟩
                      · rw [if_neg c55] at H
                        have c55b0 : (t240 == 0) = false := beq_eq_false_iff_ne.mpr c55
                        have c55b1 : (t240 != 0) = true := bne_iff_ne.mpr c55
                        by_cases c67 : (t228 == false) = true
                        · rw [if_pos c67] at H
                          have c67b0 : (t228 == false) = true := c67
                          (try (have c67b1 : decide (t228 = false) = true := by simpa using c67))
                          (try (have c67b2 : (t228 == false) = true := by simpa using c67))
                          clear c67
                          replace H := Option.bind_eq_some_iff.mp H
                          obtain ⟨t245, A680, H⟩ := H
                          replace H : (some t245) = some r := H
                          have A68 := Aside0.mk A680
                          clear A680
                          obtain rfl := Option.some.inj H
                          have hcz69_0 : wc.cell? ⟨gb216, 0, none⟩ = some (.int .i64 t206) := (blk_cell BK216.out 0).trans rfl
                          have hcz69_1 : wc.cell? ⟨gb216, 1, none⟩ = some (.int .i64 t207) := (blk_cell BK216.out 1).trans rfl
                          have hfz69_0 := blk_frozen BK216.out 0
                          have hfz69_1 := blk_frozen BK216.out 1
                          go_wp2_with (first | ((with_reducible refine gate_callee (f := 18) rfl ?_); refine goesL_ (some 71) rfl rfl Try.func18 (by kernel_rfl) rfl #[.agg #[.int .i64 t206, .int .i64 t207], .int .i64 x5_5] rfl (by (try simp only [List.map_toArray, List.map_cons, List.map_nil]); first | done | rfl | (simp only [List.length_drop, List.length_take]; rfl)) ?_; (with_reducible refine (pileref1_SunOf.calls kj31 t206 t207 x5_5 t242 _ A49.out).mono ?_); rintro e w70 ⟨rfl, hb⟩; refine ⟨_, rfl, ?_⟩; have n0_ := Aside0.mk (blk_below (g := gb216) (o := .cells #[.int .i64 t206, .int .i64 t207] 27 (0, 0)) (by (with_reducible repeat (first | refine blk_drewN ?_ _ | refine blk_drew ?_ | refine blk_alloc ?_ _)); exact BK216.out) hb); have n1_ := Aside0.mk (below_step (by repeat (first | (with_reducible first | exact HB.out | apply below_alloc | apply pw_below_drewN | apply below_drew1 | refine below_set ?_ GE216.out) | exact HB.out)) hb); clear BK216; clear HB; have BK216 := n0_; have HB := n1_; clear n0_ n1_; (try clear hb); (try clear hb2); (try clear hk); (try clear hi)) | (go_at_call 20; (with_reducible refine (pilelaw1_placed.calls kj31  t245 _ A68.out).mono ?_); rintro e w' ⟨rfl, ⟨nd, rfl⟩⟩))
                          go_ret
                          exact ⟨by first | rfl | (simp [errW_none, errW_some] <;> rfl) | (simp [*, errW_none, errW_some] <;> rfl), by repeat (first | (with_reducible first | exact HB.out | apply below_alloc | apply pw_below_drewN | apply below_drew1 | refine below_set ?_ GE216.out) | exact HB.out)⟩
                        · rw [if_neg c67] at H
                          have c67b0 : (t228 == false) = false := by simpa using c67
                          (try (have c67b1 : decide (t228 = false) = false := by simpa using c67))
                          (try (have c67b2 : (t228 == false) = false := by simpa using c67))
                          (try (have c67b3 : ¬ (t228 = false) := by simpa using c67))
                          clear c67
                          obtain rfl := Option.some.inj H
                          have hcz71_0 : wc.cell? ⟨gb216, 0, none⟩ = some (.int .i64 t206) := (blk_cell BK216.out 0).trans rfl
                          have hcz71_1 : wc.cell? ⟨gb216, 1, none⟩ = some (.int .i64 t207) := (blk_cell BK216.out 1).trans rfl
                          have hfz71_0 := blk_frozen BK216.out 0
                          have hfz71_1 := blk_frozen BK216.out 1
                          go_wp2_with (first | ((with_reducible refine gate_callee (f := 18) rfl ?_); refine goesL_ (some 71) rfl rfl Try.func18 (by kernel_rfl) rfl #[.agg #[.int .i64 t206, .int .i64 t207], .int .i64 x5_5] rfl (by (try simp only [List.map_toArray, List.map_cons, List.map_nil]); first | done | rfl | (simp only [List.length_drop, List.length_take]; rfl)) ?_; (with_reducible refine (pileref1_SunOf.calls kj31 t206 t207 x5_5 t242 _ A49.out).mono ?_); rintro e w72 ⟨rfl, hb⟩; refine ⟨_, rfl, ?_⟩; have n0_ := Aside0.mk (blk_below (g := gb216) (o := .cells #[.int .i64 t206, .int .i64 t207] 27 (0, 0)) (by (with_reducible repeat (first | refine blk_drewN ?_ _ | refine blk_drew ?_ | refine blk_alloc ?_ _)); exact BK216.out) hb); have n1_ := Aside0.mk (below_step (by repeat (first | (with_reducible first | exact HB.out | apply below_alloc | apply pw_below_drewN | apply below_drew1 | refine below_set ?_ GE216.out) | exact HB.out)) hb); clear BK216; clear HB; have BK216 := n0_; have HB := n1_; clear n0_ n1_; (try clear hb); (try clear hb2); (try clear hk); (try clear hi)))
                          go_ret
                          exact ⟨by first | rfl | (simp [errW_none, errW_some] <;> rfl) | (simp [*, errW_none, errW_some] <;> rfl), by repeat (first | (with_reducible first | exact HB.out | apply below_alloc | apply pw_below_drewN | apply below_drew1 | refine below_set ?_ GE216.out) | exact HB.out)⟩
                    · rw [if_neg c54] at H
                      have c54b0 : (t229 == t240) = false := beq_eq_false_iff_ne.mpr c54
                      have c54b1 : (t229 != t240) = true := bne_iff_ne.mpr c54
                      obtain rfl := Option.some.inj H
                      have hcz73_0 : wc.cell? ⟨gb216, 0, none⟩ = some (.int .i64 t206) := (blk_cell BK216.out 0).trans rfl
                      have hcz73_1 : wc.cell? ⟨gb216, 1, none⟩ = some (.int .i64 t207) := (blk_cell BK216.out 1).trans rfl
                      have hfz73_0 := blk_frozen BK216.out 0
                      have hfz73_1 := blk_frozen BK216.out 1
                      go_wp2_with (first | ((with_reducible refine gate_callee (f := 18) rfl ?_); refine goesL_ (some 71) rfl rfl Try.func18 (by kernel_rfl) rfl #[.agg #[.int .i64 t206, .int .i64 t207], .int .i64 x5_5] rfl (by (try simp only [List.map_toArray, List.map_cons, List.map_nil]); first | done | rfl | (simp only [List.length_drop, List.length_take]; rfl)) ?_; (with_reducible refine (pileref1_SunOf.calls kj31 t206 t207 x5_5 t242 _ A49.out).mono ?_); rintro e w74 ⟨rfl, hb⟩; refine ⟨_, rfl, ?_⟩; have n0_ := Aside0.mk (blk_below (g := gb216) (o := .cells #[.int .i64 t206, .int .i64 t207] 27 (0, 0)) (by (with_reducible repeat (first | refine blk_drewN ?_ _ | refine blk_drew ?_ | refine blk_alloc ?_ _)); exact BK216.out) hb); have n1_ := Aside0.mk (below_step (by repeat (first | (with_reducible first | exact HB.out | apply below_alloc | apply pw_below_drewN | apply below_drew1 | refine below_set ?_ GE216.out) | exact HB.out)) hb); clear BK216; clear HB; have BK216 := n0_; have HB := n1_; clear n0_ n1_; (try clear hb); (try clear hb2); (try clear hk); (try clear hi)))
                      go_ret
                      exact ⟨by first | rfl | (simp [errW_none, errW_some] <;> rfl) | (simp [*, errW_none, errW_some] <;> rfl), by repeat (first | (with_reducible first | exact HB.out | apply below_alloc | apply pw_below_drewN | apply below_drew1 | refine below_set ?_ GE216.out) | exact HB.out)⟩
                  · rw [if_neg c53] at H
                    have c53b0 : (t226 == t242) = false := beq_eq_false_iff_ne.mpr c53
                    have c53b1 : (t226 != t242) = true := bne_iff_ne.mpr c53
                    obtain rfl := Option.some.inj H
                    have hcz75_0 : wc.cell? ⟨gb216, 0, none⟩ = some (.int .i64 t206) := (blk_cell BK216.out 0).trans rfl
                    have hcz75_1 : wc.cell? ⟨gb216, 1, none⟩ = some (.int .i64 t207) := (blk_cell BK216.out 1).trans rfl
                    have hfz75_0 := blk_frozen BK216.out 0
                    have hfz75_1 := blk_frozen BK216.out 1
                    go_wp2_with (first | ((with_reducible refine gate_callee (f := 18) rfl ?_); refine goesL_ (some 71) rfl rfl Try.func18 (by kernel_rfl) rfl #[.agg #[.int .i64 t206, .int .i64 t207], .int .i64 x5_5] rfl (by (try simp only [List.map_toArray, List.map_cons, List.map_nil]); first | done | rfl | (simp only [List.length_drop, List.length_take]; rfl)) ?_; (with_reducible refine (pileref1_SunOf.calls kj31 t206 t207 x5_5 t242 _ A49.out).mono ?_); rintro e w76 ⟨rfl, hb⟩; refine ⟨_, rfl, ?_⟩; have n0_ := Aside0.mk (blk_below (g := gb216) (o := .cells #[.int .i64 t206, .int .i64 t207] 27 (0, 0)) (by (with_reducible repeat (first | refine blk_drewN ?_ _ | refine blk_drew ?_ | refine blk_alloc ?_ _)); exact BK216.out) hb); have n1_ := Aside0.mk (below_step (by repeat (first | (with_reducible first | exact HB.out | apply below_alloc | apply pw_below_drewN | apply below_drew1 | refine below_set ?_ GE216.out) | exact HB.out)) hb); clear BK216; clear HB; have BK216 := n0_; have HB := n1_; clear n0_ n1_; (try clear hb); (try clear hb2); (try clear hk); (try clear hi)))
                    go_ret
                    exact ⟨by first | rfl | (simp [errW_none, errW_some] <;> rfl) | (simp [*, errW_none, errW_some] <;> rfl), by repeat (first | (with_reducible first | exact HB.out | apply below_alloc | apply pw_below_drewN | apply below_drew1 | refine below_set ?_ GE216.out) | exact HB.out)⟩
                · rw [if_neg c52] at H
                  have c52b0 : (t227 == t235) = false := beq_eq_false_iff_ne.mpr c52
                  have c52b1 : (t227 != t235) = true := bne_iff_ne.mpr c52
                  obtain rfl := Option.some.inj H
                  have hcz77_0 : wc.cell? ⟨gb216, 0, none⟩ = some (.int .i64 t206) := (blk_cell BK216.out 0).trans rfl
                  have hcz77_1 : wc.cell? ⟨gb216, 1, none⟩ = some (.int .i64 t207) := (blk_cell BK216.out 1).trans rfl
                  have hfz77_0 := blk_frozen BK216.out 0
                  have hfz77_1 := blk_frozen BK216.out 1
                  go_wp2_with (first | ((with_reducible refine gate_callee (f := 18) rfl ?_); refine goesL_ (some 71) rfl rfl Try.func18 (by kernel_rfl) rfl #[.agg #[.int .i64 t206, .int .i64 t207], .int .i64 x5_5] rfl (by (try simp only [List.map_toArray, List.map_cons, List.map_nil]); first | done | rfl | (simp only [List.length_drop, List.length_take]; rfl)) ?_; (with_reducible refine (pileref1_SunOf.calls kj31 t206 t207 x5_5 t242 _ A49.out).mono ?_); rintro e w78 ⟨rfl, hb⟩; refine ⟨_, rfl, ?_⟩; have n0_ := Aside0.mk (blk_below (g := gb216) (o := .cells #[.int .i64 t206, .int .i64 t207] 27 (0, 0)) (by (with_reducible repeat (first | refine blk_drewN ?_ _ | refine blk_drew ?_ | refine blk_alloc ?_ _)); exact BK216.out) hb); have n1_ := Aside0.mk (below_step (by repeat (first | (with_reducible first | exact HB.out | apply below_alloc | apply pw_below_drewN | apply below_drew1 | refine below_set ?_ GE216.out) | exact HB.out)) hb); clear BK216; clear HB; have BK216 := n0_; have HB := n1_; clear n0_ n1_; (try clear hb); (try clear hb2); (try clear hk); (try clear hi)))
                  go_ret
                  exact ⟨by first | rfl | (simp [errW_none, errW_some] <;> rfl) | (simp [*, errW_none, errW_some] <;> rfl), by repeat (first | (with_reducible first | exact HB.out | apply below_alloc | apply pw_below_drewN | apply below_drew1 | refine below_set ?_ GE216.out) | exact HB.out)⟩
              · rw [if_neg c51] at H
                have c51b0 : (t224 == x16_31) = false := beq_eq_false_iff_ne.mpr c51
                have c51b1 : (t224 != x16_31) = true := bne_iff_ne.mpr c51
                obtain rfl := Option.some.inj H
                have hcz79_0 : wc.cell? ⟨gb216, 0, none⟩ = some (.int .i64 t206) := (blk_cell BK216.out 0).trans rfl
                have hcz79_1 : wc.cell? ⟨gb216, 1, none⟩ = some (.int .i64 t207) := (blk_cell BK216.out 1).trans rfl
                have hfz79_0 := blk_frozen BK216.out 0
                have hfz79_1 := blk_frozen BK216.out 1
                go_wp2_with (first | ((with_reducible refine gate_callee (f := 18) rfl ?_); refine goesL_ (some 71) rfl rfl Try.func18 (by kernel_rfl) rfl #[.agg #[.int .i64 t206, .int .i64 t207], .int .i64 x5_5] rfl (by (try simp only [List.map_toArray, List.map_cons, List.map_nil]); first | done | rfl | (simp only [List.length_drop, List.length_take]; rfl)) ?_; (with_reducible refine (pileref1_SunOf.calls kj31 t206 t207 x5_5 t242 _ A49.out).mono ?_); rintro e w80 ⟨rfl, hb⟩; refine ⟨_, rfl, ?_⟩; have n0_ := Aside0.mk (blk_below (g := gb216) (o := .cells #[.int .i64 t206, .int .i64 t207] 27 (0, 0)) (by (with_reducible repeat (first | refine blk_drewN ?_ _ | refine blk_drew ?_ | refine blk_alloc ?_ _)); exact BK216.out) hb); have n1_ := Aside0.mk (below_step (by repeat (first | (with_reducible first | exact HB.out | apply below_alloc | apply pw_below_drewN | apply below_drew1 | refine below_set ?_ GE216.out) | exact HB.out)) hb); clear BK216; clear HB; have BK216 := n0_; have HB := n1_; clear n0_ n1_; (try clear hb); (try clear hb2); (try clear hk); (try clear hi)))
                go_ret
                exact ⟨by first | rfl | (simp [errW_none, errW_some] <;> rfl) | (simp [*, errW_none, errW_some] <;> rfl), by repeat (first | (with_reducible first | exact HB.out | apply below_alloc | apply pw_below_drewN | apply below_drew1 | refine below_set ?_ GE216.out) | exact HB.out)⟩
            · rw [if_neg c50] at H
              have c50b0 : (t225 == t230) = false := beq_eq_false_iff_ne.mpr c50
              have c50b1 : (t225 != t230) = true := bne_iff_ne.mpr c50
              obtain rfl := Option.some.inj H
              have hcz81_0 : wc.cell? ⟨gb216, 0, none⟩ = some (.int .i64 t206) := (blk_cell BK216.out 0).trans rfl
              have hcz81_1 : wc.cell? ⟨gb216, 1, none⟩ = some (.int .i64 t207) := (blk_cell BK216.out 1).trans rfl
              have hfz81_0 := blk_frozen BK216.out 0
              have hfz81_1 := blk_frozen BK216.out 1
              go_wp2_with (first | ((with_reducible refine gate_callee (f := 18) rfl ?_); refine goesL_ (some 71) rfl rfl Try.func18 (by kernel_rfl) rfl #[.agg #[.int .i64 t206, .int .i64 t207], .int .i64 x5_5] rfl (by (try simp only [List.map_toArray, List.map_cons, List.map_nil]); first | done | rfl | (simp only [List.length_drop, List.length_take]; rfl)) ?_; (with_reducible refine (pileref1_SunOf.calls kj31 t206 t207 x5_5 t242 _ A49.out).mono ?_); rintro e w82 ⟨rfl, hb⟩; refine ⟨_, rfl, ?_⟩; have n0_ := Aside0.mk (blk_below (g := gb216) (o := .cells #[.int .i64 t206, .int .i64 t207] 27 (0, 0)) (by (with_reducible repeat (first | refine blk_drewN ?_ _ | refine blk_drew ?_ | refine blk_alloc ?_ _)); exact BK216.out) hb); have n1_ := Aside0.mk (below_step (by repeat (first | (with_reducible first | exact HB.out | apply below_alloc | apply pw_below_drewN | apply below_drew1 | refine below_set ?_ GE216.out) | exact HB.out)) hb); clear BK216; clear HB; have BK216 := n0_; have HB := n1_; clear n0_ n1_; (try clear hb); (try clear hb2); (try clear hk); (try clear hi)))
              go_ret
              exact ⟨by first | rfl | (simp [errW_none, errW_some] <;> rfl) | (simp [*, errW_none, errW_some] <;> rfl), by repeat (first | (with_reducible first | exact HB.out | apply below_alloc | apply pw_below_drewN | apply below_drew1 | refine below_set ?_ GE216.out) | exact HB.out)⟩
          · rw [if_neg c48] at H
            have c48b0 : (t235 == 0) = false := beq_eq_false_iff_ne.mpr c48
            have c48b1 : (t235 != 0) = true := bne_iff_ne.mpr c48
            by_cases c83 : t225 = t230
            · rw [if_pos c83] at H
              have c83b0 : (t225 == t230) = true := beq_iff_eq.mpr c83
              have c83b1 : (t225 != t230) = false := bne_eq_false_iff_eq.mpr c83
              clear c83
              by_cases c84 : t224 = x16_31
              · rw [if_pos c84] at H
                have c84b0 : (t224 == x16_31) = true := beq_iff_eq.mpr c84
                have c84b1 : (t224 != x16_31) = false := bne_eq_false_iff_eq.mpr c84
                clear c84
                by_cases c85 : t227 = t235
                · rw [if_pos c85] at H
                  have c85b0 : (t227 == t235) = true := beq_iff_eq.mpr c85
                  have c85b1 : (t227 != t235) = false := bne_eq_false_iff_eq.mpr c85
                  clear c85
                  by_cases c86 : t226 = 0
                  · rw [if_pos c86] at H
                    have c86b0 : (t226 == 0) = true := beq_iff_eq.mpr c86
                    have c86b1 : (t226 != 0) = false := bne_eq_false_iff_eq.mpr c86
                    clear c86
                    by_cases c87 : t229 = t240
                    · rw [if_pos c87] at H
                      have c87b0 : (t229 == t240) = true := beq_iff_eq.mpr c87
                      have c87b1 : (t229 != t240) = false := bne_eq_false_iff_eq.mpr c87
                      clear c87
                      by_cases c88 : t240 = 0
                      · rw [if_pos c88] at H
                        have c88b0 : (t240 == 0) = true := beq_iff_eq.mpr c88
                        have c88b1 : (t240 != 0) = false := bne_eq_false_iff_eq.mpr c88
                        clear c88
                        replace H := Option.bind_eq_some_iff.mp H
                        obtain ⟨t246, A890, H⟩ := H
                        replace H : (if (t228 == t246) = true then ((pilelaw1_placed.f kj31).bind fun t247 => (some t247)) else (some false)) = some r := H
                        have A89 := Aside0.mk A890
                        clear A890
                        by_cases c90 : (t228 == t246) = true
                        · rw [if_pos c90] at H
                          have c90b0 : (t228 == t246) = true := c90
                          (try (have c90b1 : decide (t228 = t246) = true := by simpa using c90))
                          (try (have c90b2 : (t228 == t246) = true := by simpa using c90))
                          clear c90
                          replace H := Option.bind_eq_some_iff.mp H
                          obtain ⟨t247, A910, H⟩ := H
                          replace H : (some t247) = some r := H
                          have A91 := Aside0.mk A910
                          clear A910
                          obtain rfl := Option.some.inj H
                          have hcz92_0 : wc.cell? ⟨gb216, 0, none⟩ = some (.int .i64 t206) := (blk_cell BK216.out 0).trans rfl
                          have hcz92_1 : wc.cell? ⟨gb216, 1, none⟩ = some (.int .i64 t207) := (blk_cell BK216.out 1).trans rfl
                          have hfz92_0 := blk_frozen BK216.out 0
                          have hfz92_1 := blk_frozen BK216.out 1
                          go_wp2_with (first | (go_at_call 19; (with_reducible refine (pileref1_GreyAt.calls kj31 t206 t207 x5_5 t214 t246 _ A89.out).mono ?_); rintro e w93 ⟨rfl, hb⟩; have n0_ := Aside0.mk (blk_below (g := gb216) (o := .cells #[.int .i64 t206, .int .i64 t207] 27 (0, 0)) (by (with_reducible repeat (first | refine blk_drewN ?_ _ | refine blk_drew ?_ | refine blk_alloc ?_ _)); exact BK216.out) hb); have n1_ := Aside0.mk (below_step (by repeat (first | (with_reducible first | exact HB.out | apply below_alloc | apply pw_below_drewN | apply below_drew1 | refine below_set ?_ GE216.out) | exact HB.out)) hb); clear BK216; clear HB; have BK216 := n0_; have HB := n1_; clear n0_ n1_; (try clear hb); (try clear hb2); (try clear hk); (try clear hi)) | (go_at_call 20; (with_reducible refine (pilelaw1_placed.calls kj31  t247 _ A91.out).mono ?_); rintro e w' ⟨rfl, ⟨nd, rfl⟩⟩))
                          go_ret
                          exact ⟨by first | rfl | (simp [errW_none, errW_some] <;> rfl) | (simp [*, errW_none, errW_some] <;> rfl), by repeat (first | (with_reducible first | exact HB.out | apply below_alloc | apply pw_below_drewN | apply below_drew1 | refine below_set ?_ GE216.out) | exact HB.out)⟩
                        · rw [if_neg c90] at H
                          have c90b0 : (t228 == t246) = false := by simpa using c90
                          (try (have c90b1 : decide (t228 = t246) = false := by simpa using c90))
                          (try (have c90b2 : (t228 == t246) = false := by simpa using c90))
                          (try (have c90b3 : ¬ (t228 = t246) := by simpa using c90))
                          clear c90
                          obtain rfl := Option.some.inj H
                          have hcz94_0 : wc.cell? ⟨gb216, 0, none⟩ = some (.int .i64 t206) := (blk_cell BK216.out 0).trans rfl
                          have hcz94_1 : wc.cell? ⟨gb216, 1, none⟩ = some (.int .i64 t207) := (blk_cell BK216.out 1).trans rfl
                          have hfz94_0 := blk_frozen BK216.out 0
                          have hfz94_1 := blk_frozen BK216.out 1
                          go_wp2_with (first | (go_at_call 19; (with_reducible refine (pileref1_GreyAt.calls kj31 t206 t207 x5_5 t214 t246 _ A89.out).mono ?_); rintro e w95 ⟨rfl, hb⟩; have n0_ := Aside0.mk (blk_below (g := gb216) (o := .cells #[.int .i64 t206, .int .i64 t207] 27 (0, 0)) (by (with_reducible repeat (first | refine blk_drewN ?_ _ | refine blk_drew ?_ | refine blk_alloc ?_ _)); exact BK216.out) hb); have n1_ := Aside0.mk (below_step (by repeat (first | (with_reducible first | exact HB.out | apply below_alloc | apply pw_below_drewN | apply below_drew1 | refine below_set ?_ GE216.out) | exact HB.out)) hb); clear BK216; clear HB; have BK216 := n0_; have HB := n1_; clear n0_ n1_; (try clear hb); (try clear hb2); (try clear hk); (try clear hi)))
                          go_ret
                          exact ⟨by first | rfl | (simp [errW_none, errW_some] <;> rfl) | (simp [*, errW_none, errW_some] <;> rfl), by repeat (first | (with_reducible first | exact HB.out | apply below_alloc | apply pw_below_drewN | apply below_drew1 | refine below_set ?_ GE216.out) | exact HB.out)⟩
                      · rw [if_neg c88] at H
                        have c88b0 : (t240 == 0) = false := beq_eq_false_iff_ne.mpr c88
                        have c88b1 : (t240 != 0) = true := bne_iff_ne.mpr c88
                        by_cases c96 : (t228 == false) = true
                        · rw [if_pos c96] at H
                          have c96b0 : (t228 == false) = true := c96
                          (try (have c96b1 : decide (t228 = false) = true := by simpa using c96))
                          (try (have c96b2 : (t228 == false) = true := by simpa using c96))
                          clear c96
                          replace H := Option.bind_eq_some_iff.mp H
                          obtain ⟨t248, A970, H⟩ := H
                          replace H : (some t248) = some r := H
                          have A97 := Aside0.mk A970
                          clear A970
                          obtain rfl := Option.some.inj H
                          go_wp2_with (first | (go_at_call 20; (with_reducible refine (pilelaw1_placed.calls kj31  t248 _ A97.out).mono ?_); rintro e w' ⟨rfl, ⟨nd, rfl⟩⟩))
                          go_ret
                          exact ⟨by first | rfl | (simp [errW_none, errW_some] <;> rfl) | (simp [*, errW_none, errW_some] <;> rfl), by repeat (first | (with_reducible first | exact HB.out | apply below_alloc | apply pw_below_drewN | apply below_drew1 | refine below_set ?_ GE216.out) | exact HB.out)⟩
                        · rw [if_neg c96] at H
                          have c96b0 : (t228 == false) = false := by simpa using c96
                          (try (have c96b1 : decide (t228 = false) = false := by simpa using c96))
                          (try (have c96b2 : (t228 == false) = false := by simpa using c96))
                          (try (have c96b3 : ¬ (t228 = false) := by simpa using c96))
                          clear c96
                          obtain rfl := Option.some.inj H
                          go_wp2
                          go_ret
                          exact ⟨by first | rfl | (simp [errW_none, errW_some] <;> rfl) | (simp [*, errW_none, errW_some] <;> rfl), by repeat (first | (with_reducible first | exact HB.out | apply below_alloc | apply pw_below_drewN | apply below_drew1 | refine below_set ?_ GE216.out) | exact HB.out)⟩
                    · rw [if_neg c87] at H
                      have c87b0 : (t229 == t240) = false := beq_eq_false_iff_ne.mpr c87
                      have c87b1 : (t229 != t240) = true := bne_iff_ne.mpr c87
                      obtain rfl := Option.some.inj H
                      go_wp2
                      go_ret
                      exact ⟨by first | rfl | (simp [errW_none, errW_some] <;> rfl) | (simp [*, errW_none, errW_some] <;> rfl), by repeat (first | (with_reducible first | exact HB.out | apply below_alloc | apply pw_below_drewN | apply below_drew1 | refine below_set ?_ GE216.out) | exact HB.out)⟩
                  · rw [if_neg c86] at H
                    have c86b0 : (t226 == 0) = false := beq_eq_false_iff_ne.mpr c86
                    have c86b1 : (t226 != 0) = true := bne_iff_ne.mpr c86
                    obtain rfl := Option.some.inj H
                    go_wp2
                    go_ret
                    exact ⟨by first | rfl | (simp [errW_none, errW_some] <;> rfl) | (simp [*, errW_none, errW_some] <;> rfl), by repeat (first | (with_reducible first | exact HB.out | apply below_alloc | apply pw_below_drewN | apply below_drew1 | refine below_set ?_ GE216.out) | exact HB.out)⟩
                · rw [if_neg c85] at H
                  have c85b0 : (t227 == t235) = false := beq_eq_false_iff_ne.mpr c85
                  have c85b1 : (t227 != t235) = true := bne_iff_ne.mpr c85
                  obtain rfl := Option.some.inj H
                  go_wp2
                  go_ret
                  exact ⟨by first | rfl | (simp [errW_none, errW_some] <;> rfl) | (simp [*, errW_none, errW_some] <;> rfl), by repeat (first | (with_reducible first | exact HB.out | apply below_alloc | apply pw_below_drewN | apply below_drew1 | refine below_set ?_ GE216.out) | exact HB.out)⟩
              · rw [if_neg c84] at H
                have c84b0 : (t224 == x16_31) = false := beq_eq_false_iff_ne.mpr c84
                have c84b1 : (t224 != x16_31) = true := bne_iff_ne.mpr c84
                obtain rfl := Option.some.inj H
                go_wp2
                go_ret
                exact ⟨by first | rfl | (simp [errW_none, errW_some] <;> rfl) | (simp [*, errW_none, errW_some] <;> rfl), by repeat (first | (with_reducible first | exact HB.out | apply below_alloc | apply pw_below_drewN | apply below_drew1 | refine below_set ?_ GE216.out) | exact HB.out)⟩
            · rw [if_neg c83] at H
              have c83b0 : (t225 == t230) = false := beq_eq_false_iff_ne.mpr c83
              have c83b1 : (t225 != t230) = true := bne_iff_ne.mpr c83
              obtain rfl := Option.some.inj H
              go_wp2
              go_ret
              exact ⟨by first | rfl | (simp [errW_none, errW_some] <;> rfl) | (simp [*, errW_none, errW_some] <;> rfl), by repeat (first | (with_reducible first | exact HB.out | apply below_alloc | apply pw_below_drewN | apply below_drew1 | refine below_set ?_ GE216.out) | exact HB.out)⟩

/-- THE ONE PURE STATEMENT of pilelaw1_SunFollowed: yours. -/
def pilelaw1_SunFollowed.Pure : Prop := ∀ (l0 : List Int), l0.length ≤ maxLen → l0.length * 8 ≤ 140737488351232 → (∀ x ∈ l0, (Lit.int .i64 x).wf = true) → ∃ k, pilelaw1_SunFollowed.f k l0 = some true
theorem pilelaw1_SunFollowed.walk (P : pilelaw1_SunFollowed.Pure) (a0 : Option Addr) (len0 cap0 : Nat) (z0 : List Int) (w : World) (w0 : (a0 = none ∧ len0 = 0 ∧ cap0 = 0 ∧ z0 = []) ∨ ∃ x, a0 = some x ∧ len0 ≤ cap0 ∧ cap0 ≤ maxLen ∧ z0.length = cap0 ∧ (∀ i, i < z0.length → w.cell? (x.add i) = some (.int .i64 (z0.getD i 0))) ∧ ∀ n ∈ z0, (Lit.int .i64 n).wf = true) (y0 : len0 * 8 ≤ 140737488351232) :
    Calls Try.prog 3 #[.slice a0 len0 cap0] w fun e w' => e = .returned (.bool true) ∧ Below w.heap.size w w' := by
  obtain ⟨l0, rfl, hr0, hm0, hw0, hc0⟩ := ReadsInt.ofRowC w0
  obtain ⟨k, h⟩ := P l0 hm0 y0 hw0
  refine (pilelaw1_SunFollowed.calls k _ _ l0 true w (Kd.C_of_reads (d := (0 : Int)) (h1 := fun _ => rfl) hr0) hc0 h).mono ?_
  rintro e w' ⟨rfl, hd⟩
  exact ⟨rfl, hd⟩

end Go.Proofs.Ytonnpocamipbiaa.PSunFollowed
