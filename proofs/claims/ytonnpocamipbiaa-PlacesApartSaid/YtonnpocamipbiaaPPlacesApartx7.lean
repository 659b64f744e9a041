-- A program of this session wrote this text: a turned copy of the printer; functions proved by hand stand in it.
import Derived.Test.YtonnpocamipbiaaPPlacesApartx0
import Derived.Test.YtonnpocamipbiaaPPlacesApartx4
import Derived.Test.YtonnpocamipbiaaPPlacesApartx6
namespace Go.Proofs.Ytonnpocamipbiaa.PPlacesApart
open Go.RowKit Go.Proofs.YtonnpocamipbiaaW.PrintWords Go.Proofs.YtonnpocamipbiaaW.PrintLast Go.Proofs.YtonnpocamipbiaaW.PrintMore Go.Proofs.YtonnpocamipbiaaW.PrintOwn
attribute [local go_sem] max2_int min2_int max_two min_two max_three min_three max_four min_four   -- for this text's walks alone
set_option linter.unusedVariables false
set_option linter.unusedSimpArgs false

/-! ### place_middle: function 75 -/
def place_middle.f (k : Nat) (a0 : ByteArray) : Option (Int × Int) := (place_area.f k a0).bind fun bt305 => (some (wrap64 (bt305.1 + (wrap64 (Int.tdiv (wrap64 (bt305.2.2.1 - bt305.1)) 2))), wrap64 (bt305.2.1 + (wrap64 (Int.tdiv (wrap64 (bt305.2.2.2 - bt305.2.1)) 2)))))
theorem place_middle.mono : ∀ a0 k, LeO (place_middle.f k a0) (place_middle.f (k + 1) a0) := by
  intro a0 k
  unfold place_middle.f
  repeat' first | (with_reducible apply place_area.mono) | (with_reducible exact LeO.refl _) | (with_reducible exact LeO.none _) | (with_reducible refine LeO.ite ?_ ?_) | (with_reducible refine LeO.bind ?_ (fun _ => ?_)) | apply place_area.mono | exact LeO.none _ | refine LeO.ite ?_ ?_ | refine LeO.bind ?_ (fun _ => ?_)
set_option maxHeartbeats 8000000 in
set_option maxRecDepth 100000 in
theorem place_middle.calls (k : Nat) (a0 : ByteArray) (r1 : Int) (r2 : Int) (w : World) (h : place_middle.f k a0 = some (r1, r2)) :
    Calls Try.prog 75 #[.string a0] w fun e w' => e = .returned (.agg #[.int .i64 r1, .int .i64 r2]) ∧ Below w.heap.size w w' := by
  have hu27 := Try.underlying27; have hu96 := Try.underlying96; have HB := Aside0.mk (Below.refl w.heap.size w); (have H : ((place_area.f k a0).bind fun bt305 => (some (wrap64 (bt305.1 + (wrap64 (Int.tdiv (wrap64 (bt305.2.2.1 - bt305.1)) 2))), wrap64 (bt305.2.1 + (wrap64 (Int.tdiv (wrap64 (bt305.2.2.2 - bt305.2.1)) 2)))))) = some (r1, r2) := h); clear h; replace H := Option.bind_eq_some_iff.mp H; obtain ⟨⟨t305, t306, t307, t308⟩, A20, H⟩ := H; replace H : (some (wrap64 (t305 + (wrap64 (Int.tdiv (wrap64 (t307 - t305)) 2))), wrap64 (t306 + (wrap64 (Int.tdiv (wrap64 (t308 - t306)) 2))))) = some (r1, r2) := H; have A2 := Aside0.mk A20; clear A20
  simp only [Option.some.injEq, Prod.mk.injEq] at H
  obtain ⟨rfl, rfl⟩ := H
  go_enter Try.func75, Try.ntmps75
  go_wp2_with (first | ((with_reducible refine gate_dst (N := 2) rfl ?_); refine box_event ?hg (N := 2) ?hd (cs := #[.int .i64 0, .int .i64 0]) (t := 27) ?hr ?_; (case hd => rfl); (case hg => rfl); (case hr => first | (go_simp; done) | (go_simp; rfl)); intro gb304 hg w3 hbox hb; have n0_ := Aside0.mk (below_step (by repeat (first | (with_reducible first | exact HB.out | apply below_alloc | apply pw_below_drewN | apply below_drew1) | exact HB.out)) hb); have n1_ := Aside0.mk (hbox); have n2_ := Aside0.mk ((by rw [hg]; exact (below_size (by repeat (first | (with_reducible first | exact HB.out | apply below_alloc | apply pw_below_drewN | apply below_drew1) | exact HB.out))) : w.heap.size ≤ gb304)); have n3_ := Aside0.mk ((by rw [hg]; exact (below_size (by repeat (first | (with_reducible first | exact HB.out | apply below_alloc | apply pw_below_drewN | apply below_drew1) | exact HB.out))) : w.heap.size ≤ gb304)); clear HB; have HB := n0_; have BK304 := n1_; have GW304 := n2_; have GE304 := n3_; clear n0_ n1_ n2_ n3_; clear hb hbox hg) | ((with_reducible refine gate_callee (f := 84) rfl ?_); refine goesL_ (some 5) rfl rfl Try.func84 (by kernel_rfl) rfl #[.string a0] rfl (by (try simp only [List.map_toArray, List.map_cons, List.map_nil]); first | done | rfl | (simp only [List.length_drop, List.length_take]; rfl)) ?_; (with_reducible refine (place_area.calls k a0 t305 t306 t307 t308 _ A2.out).mono ?_); rintro e w4 ⟨rfl, hb⟩; refine ⟨_, rfl, ?_⟩; have n0_ := Aside0.mk (blk_below (g := gb304) (o := .cells #[.int .i64 0, .int .i64 0] 27 (0, 0)) (blk_up BK304.out) hb); have n1_ := Aside0.mk (below_step (by repeat (first | (with_reducible first | exact HB.out | apply below_alloc | apply pw_below_drewN | apply below_drew1 | refine below_set ?_ GE304.out) | exact HB.out)) hb); clear BK304; clear HB; have BK304 := n0_; have HB := n1_; clear n0_ n1_; (try clear hb); (try clear hb2); (try clear hk); (try clear hi)) | ((with_reducible refine gate_dst (N := 3) rfl ?_); refine box_event ?hg (N := 3) ?hd (cs := #[.int .i64 0, .int .i64 0, .int .i64 0, .int .i64 0]) (t := 96) ?hr ?_; (case hd => rfl); (case hg => rfl); (case hr => first | (go_simp; done) | (go_simp; rfl)); intro gb309 hg w5 hbox hb; have n0_ := Aside0.mk (blk_below (g := gb304) (o := .cells #[.int .i64 0, .int .i64 0] 27 (0, 0)) (blk_up BK304.out) hb); have n1_ := Aside0.mk (below_step (by repeat (first | (with_reducible first | exact HB.out | apply below_alloc | apply pw_below_drewN | apply below_drew1 | refine below_set ?_ GE304.out) | exact HB.out)) hb); have n2_ := Aside0.mk (hbox); have n3_ := Aside0.mk ((by rw [hg]; exact (below_size (by repeat (first | (with_reducible first | exact HB.out | apply below_alloc | apply pw_below_drewN | apply below_drew1 | refine below_set ?_ GE304.out) | exact HB.out))) : w.heap.size ≤ gb309)); have n4_ := Aside0.mk ((by rw [hg]; exact (below_size (by repeat (first | (with_reducible first | exact HB.out | apply below_alloc | apply pw_below_drewN | apply below_drew1 | refine below_set ?_ GE304.out) | exact HB.out))) : w.heap.size ≤ gb309)); have n5_ := Aside0.mk ((by rw [hg]; exact Nat.ne_of_lt (blk_lt (g := gb304) (o := .cells #[.int .i64 0, .int .i64 0] 27 (0, 0)) (blk_up BK304.out)) : gb304 ≠ gb309)); have n6_ := Aside0.mk ((by rw [hg]; exact Nat.ne_of_gt (blk_lt (g := gb304) (o := .cells #[.int .i64 0, .int .i64 0] 27 (0, 0)) (blk_up BK304.out)) : gb309 ≠ gb304)); clear BK304; clear HB; have BK304 := n0_; have HB := n1_; have BK309 := n2_; have GW309 := n3_; have GE309 := n4_; have NB304_309 := n5_; have NB309_304 := n6_; clear n0_ n1_ n2_ n3_ n4_ n5_ n6_; clear hb hbox hg; have hnb6 := NB309_304.out; have hnc6 := NB304_309.out; have hcz7_0 : w5.cell? ⟨gb309, 0, none⟩ = some (.int .i64 0) := (blk_cell BK309.out 0).trans rfl; have hcz7_1 : w5.cell? ⟨gb309, 1, none⟩ = some (.int .i64 0) := (blk_cell BK309.out 1).trans rfl; have hcz7_2 : w5.cell? ⟨gb309, 2, none⟩ = some (.int .i64 0) := (blk_cell BK309.out 2).trans rfl; have hcz7_3 : w5.cell? ⟨gb309, 3, none⟩ = some (.int .i64 0) := (blk_cell BK309.out 3).trans rfl; have hfz7_0 := blk_frozen BK309.out 0; have hfz7_1 := blk_frozen BK309.out 1; have hfz7_2 := blk_frozen BK309.out 2; have hfz7_3 := blk_frozen BK309.out 3; have hcz8_0 : w5.cell? ⟨gb304, 0, none⟩ = some (.int .i64 0) := (blk_cell BK304.out 0).trans rfl; have hcz8_1 : w5.cell? ⟨gb304, 1, none⟩ = some (.int .i64 0) := (blk_cell BK304.out 1).trans rfl; have hfz8_0 := blk_frozen BK304.out 0; have hfz8_1 := blk_frozen BK304.out 1))
  refine bodyPost_ret (results_cell_row rfl _ _ gb304 27 #[.int .i64 (wrap64 (t305 + (wrap64 (Int.tdiv (wrap64 (t307 - t305)) 2)))), .int .i64 (wrap64 (t306 + (wrap64 (Int.tdiv (wrap64 (t308 - t306)) 2))))] (0, 0) _ rfl (by (with_reducible repeat (first | refine blk_drewN ?_ _ | refine blk_drew ?_ | refine blk_alloc ?_ _)); refine blk_put (cs := #[.int .i64 (wrap64 (t305 + (wrap64 (Int.tdiv (wrap64 (t307 - t305)) 2)))), .int .i64 0]) ?_ 1 _ rfl; (with_reducible repeat (first | refine blk_drewN ?_ _ | refine blk_drew ?_ | refine blk_alloc ?_ _)); refine blk_put (cs := #[.int .i64 0, .int .i64 0]) ?_ 0 _ rfl; (with_reducible repeat (first | refine blk_drewN ?_ _ | refine blk_drew ?_ | refine blk_alloc ?_ _)); refine blk_far ?_ NB304_309.out _; (with_reducible repeat (first | refine blk_drewN ?_ _ | refine blk_drew ?_ | refine blk_alloc ?_ _)); refine blk_far ?_ NB304_309.out _; (with_reducible repeat (first | refine blk_drewN ?_ _ | refine blk_drew ?_ | refine blk_alloc ?_ _)); refine blk_far ?_ NB304_309.out _; (with_reducible repeat (first | refine blk_drewN ?_ _ | refine blk_drew ?_ | refine blk_alloc ?_ _)); refine blk_far ?_ NB304_309.out _; (with_reducible repeat (first | refine blk_drewN ?_ _ | refine blk_drew ?_ | refine blk_alloc ?_ _)); exact BK304.out) Try.underlying27 rfl (by kernel_rfl)) rfl ?_
  exact ⟨by first | rfl | (simp [errW_none, errW_some] <;> rfl) | (simp [*, errW_none, errW_some] <;> rfl), by repeat (first | (with_reducible first | exact HB.out | apply below_alloc | apply pw_below_drewN | apply below_drew1 | refine below_set ?_ GE304.out | refine below_set ?_ GE309.out) | exact HB.out)⟩

/-! ### place_Farthest: function 43 -/
def place_Farthest.l0 : Nat → ByteArray → Int → Int → List ByteArray → Int → Int → Option (Int × Int × Int)
  | 0, _, _, _, _, _, _ => none
  | k + 1, x0, x7, x8, x21, x22, x23 => if x23 < x22 then (if 0 ≤ x23 then (if x23 < (x21.length : Int) then ((place_IsLocator.f k (rdOf ByteArray.empty x21 x23)).bind fun t312 => (if t312 = true then ((place_middle.f k x0).bind fun bt313 => ((place_middle.f k (rdOf ByteArray.empty x21 x23)).bind fun bt315 => ((place_distance.f k bt313.1 bt313.2 bt315.1 bt315.2).bind fun t317 => (if t317 > x8 then (place_Farthest.l0 k x0 x23 t317 x21 x22 (wrap64 (x23 + 1))) else (place_Farthest.l0 k x0 x7 x8 x21 x22 (wrap64 (x23 + 1))))))) else (some (0, 0, 3)))) else (none)) else (none)) else (some (x7, x8, 0))
def place_Farthest.f (k : Nat) (a0 : ByteArray) (l1 : List ByteArray) : Option (Int × Int × Int) := (place_IsLocator.f k a0).bind fun t310 => (if t310 = true then (if (l1.length : Int) = 0 then (some (0, 0, 8)) else (if (l1.length : Int) > 2000 then (some (0, 0, 2)) else (place_Farthest.l0 k a0 0 (-1) l1 (l1.length : Int) 0))) else (some (0, 0, 3)))
theorem place_Farthest.mono_l : ∀ k, (∀ y0 y1 y2 y3 y4 y5, LeO (place_Farthest.l0 k y0 y1 y2 y3 y4 y5) (place_Farthest.l0 (k + 1) y0 y1 y2 y3 y4 y5))
  | 0 => fun _ _ _ _ _ _ r h => by simp [place_Farthest.l0] at h
  | k + 1 => by
    have ih0 := place_Farthest.mono_l k
    · intro y0 y1 y2 y3 y4 y5
      unfold place_Farthest.l0
      repeat' first | (with_reducible apply ih0) | (with_reducible apply place_IsLocator.mono) | (with_reducible apply place_distance.mono) | (with_reducible apply place_middle.mono) | (with_reducible exact LeO.refl _) | (with_reducible exact LeO.none _) | (with_reducible refine LeO.ite ?_ ?_) | (with_reducible refine LeO.bind ?_ (fun _ => ?_)) | apply ih0 | apply place_IsLocator.mono | apply place_distance.mono | apply place_middle.mono | exact LeO.none _ | refine LeO.ite ?_ ?_ | refine LeO.bind ?_ (fun _ => ?_)
theorem place_Farthest.mono : ∀ a0 a1 k, LeO (place_Farthest.f k a0 a1) (place_Farthest.f (k + 1) a0 a1) := by
  intro a0 a1 k
  have ih0 := place_Farthest.mono_l k
  unfold place_Farthest.f
  repeat' first | (with_reducible apply ih0) | (with_reducible apply place_IsLocator.mono) | (with_reducible exact LeO.refl _) | (with_reducible exact LeO.none _) | (with_reducible refine LeO.ite ?_ ?_) | (with_reducible refine LeO.bind ?_ (fun _ => ?_)) | apply ih0 | apply place_IsLocator.mono | exact LeO.none _ | refine LeO.ite ?_ ?_ | refine LeO.bind ?_ (fun _ => ?_)
set_option maxHeartbeats 8000000 in
set_option maxRecDepth 100000 in
theorem place_Farthest.calls (k : Nat) (a0 : ByteArray) (A1 : Option Addr) (c1 : Nat) (l1 : List ByteArray) (r1 : Int) (r2 : Int) (r3 : Int) (w : World) (hr1 : Kd.C Kd.string w A1 l1.length l1) (hc1 : l1.length ≤ c1) (h : place_Farthest.f k a0 l1 = some (r1, r2, r3)) :
    Calls Try.prog 43 #[.string a0, .slice A1 l1.length c1] w fun e w' => e = .returned (.tuple #[.int .i64 r1, .int .i64 r2, .int .i64 r3]) ∧ Below w.heap.size w w' := by
  have HR1 := Aside0.mk hr1; have HC1 := Aside0.mk hc1; clear hr1 hc1; have HB := Aside0.mk (Below.refl w.heap.size w); (have H : ((place_IsLocator.f k a0).bind fun t310 => (if t310 = true then (if (l1.length : Int) = 0 then (some (0, 0, 8)) else (if (l1.length : Int) > 2000 then (some (0, 0, 2)) else (place_Farthest.l0 k a0 0 (-1) l1 (l1.length : Int) 0))) else (some (0, 0, 3)))) = some (r1, r2, r3) := h); clear h; replace H := Option.bind_eq_some_iff.mp H; obtain ⟨t310, A30, H⟩ := H; replace H : (if t310 = true then (if (l1.length : Int) = 0 then (some (0, 0, 8)) else (if (l1.length : Int) > 2000 then (some (0, 0, 2)) else (place_Farthest.l0 k a0 0 (-1) l1 (l1.length : Int) 0))) else (some (0, 0, 3))) = some (r1, r2, r3) := H; have A3 := Aside0.mk A30; clear A30
  by_cases c4 : t310 = true
  · subst c4
    (have H1 : (if (l1.length : Int) = 0 then (some (0, 0, 8)) else (if (l1.length : Int) > 2000 then (some (0, 0, 2)) else (place_Farthest.l0 k a0 0 (-1) l1 (l1.length : Int) 0))) = some (r1, r2, r3) := by rw [if_pos rfl] at H; exact H); clear H; have H := H1; clear H1
    by_cases c5 : (l1.length : Int) = 0
    · rw [if_pos c5] at H
      have c5b0 : ((l1.length : Int) == 0) = true := beq_iff_eq.mpr c5; have c5b1 : ((l1.length : Int) != 0) = false := bne_eq_false_iff_eq.mpr c5; clear c5
      simp only [Option.some.injEq, Prod.mk.injEq] at H
      obtain ⟨rfl, rfl, rfl⟩ := H
      go_enter Try.func43, Try.ntmps43
      go_wp2_with (first | ((with_reducible refine gate_callee (f := 74) rfl ?_); refine goesL_ (some 13) rfl rfl Try.func74 (by kernel_rfl) rfl #[.string a0] rfl (by (try simp only [List.map_toArray, List.map_cons, List.map_nil]); first | done | rfl | (simp only [List.length_drop, List.length_take]; rfl)) ?_; (with_reducible refine (place_IsLocator.calls k a0 true _ A3.out).mono ?_); rintro e w6 ⟨rfl, hb⟩; refine ⟨_, rfl, ?_⟩; have n0_ := Aside0.mk (below_step (by repeat (first | (with_reducible first | exact HB.out | apply below_alloc | apply pw_below_drewN | apply below_drew1) | exact HB.out)) hb); clear HB; have HB := n0_; clear n0_; (try clear hb); (try clear hb2); (try clear hk); (try clear hi)))
      go_ret3
      exact ⟨by first | rfl | (simp [errW_none, errW_some] <;> rfl) | (simp [*, errW_none, errW_some] <;> rfl), by repeat (first | (with_reducible first | exact HB.out | apply below_alloc | apply pw_below_drewN | apply below_drew1) | exact HB.out)⟩
    · rw [if_neg c5] at H
      have c5b0 : ((l1.length : Int) == 0) = false := beq_eq_false_iff_ne.mpr c5; have c5b1 : ((l1.length : Int) != 0) = true := bne_iff_ne.mpr c5; (have c5b2 : ¬ (l1 = []) := fun h_ => c5 (by rw [h_]; rfl))
      by_cases c7 : (l1.length : Int) > 2000
      · rw [if_pos c7] at H
        have c7b0 : decide (2000 < (l1.length : Int)) = true := decide_eq_true c7; (have c7b1 : decide (2000 < l1.length) = true := decide_eq_true (by omega)); clear c7
        simp only [Option.some.injEq, Prod.mk.injEq] at H
        obtain ⟨rfl, rfl, rfl⟩ := H
        go_enter Try.func43, Try.ntmps43
        go_wp2_with (first | ((with_reducible refine gate_callee (f := 74) rfl ?_); refine goesL_ (some 13) rfl rfl Try.func74 (by kernel_rfl) rfl #[.string a0] rfl (by (try simp only [List.map_toArray, List.map_cons, List.map_nil]); first | done | rfl | (simp only [List.length_drop, List.length_take]; rfl)) ?_; (with_reducible refine (place_IsLocator.calls k a0 true _ A3.out).mono ?_); rintro e w8 ⟨rfl, hb⟩; refine ⟨_, rfl, ?_⟩; have n0_ := Aside0.mk (below_step (by repeat (first | (with_reducible first | exact HB.out | apply below_alloc | apply pw_below_drewN | apply below_drew1) | exact HB.out)) hb); clear HB; have HB := n0_; clear n0_; (try clear hb); (try clear hb2); (try clear hk); (try clear hi)))
        go_ret3
        exact ⟨by first | rfl | (simp [errW_none, errW_some] <;> rfl) | (simp [*, errW_none, errW_some] <;> rfl), by repeat (first | (with_reducible first | exact HB.out | apply below_alloc | apply pw_below_drewN | apply below_drew1) | exact HB.out)⟩
      · rw [if_neg c7] at H
        have c7b0 : decide (2000 < (l1.length : Int)) = false := decide_eq_false c7; (have c7b1 : decide (2000 < l1.length) = false := decide_eq_false (by omega)); clear c7; have H' := Aside0.mk H; clear H
        go_enter Try.func43, Try.ntmps43
        go_wp2_with (first | ((with_reducible refine gate_callee (f := 74) rfl ?_); refine goesL_ (some 13) rfl rfl Try.func74 (by kernel_rfl) rfl #[.string a0] rfl (by (try simp only [List.map_toArray, List.map_cons, List.map_nil]); first | done | rfl | (simp only [List.length_drop, List.length_take]; rfl)) ?_; (with_reducible refine (place_IsLocator.calls k a0 true _ A3.out).mono ?_); rintro e w9 ⟨rfl, hb⟩; refine ⟨_, rfl, ?_⟩; have n0_ := Aside0.mk (below_step (by repeat (first | (with_reducible first | exact HB.out | apply below_alloc | apply pw_below_drewN | apply below_drew1) | exact HB.out)) hb); clear HB; have HB := n0_; clear n0_; (try clear hb); (try clear hb2); (try clear hk); (try clear hi)))
        go_loopg [7, 8, 23] k (fun kq v7 v8 v23 w' => ∃ (x7_1 : Int) (x8_1 : Int) (x23_1 : Int), v7 = .int .i64 x7_1 ∧ v8 = .int .i64 x8_1 ∧ v23 = .int .i64 x23_1 ∧ Aside0 (place_Farthest.l0 kq a0 x7_1 x8_1 l1 (l1.length : Int) x23_1 = some (r1, r2, r3)) ∧ Aside0 (kq ≤ k) ∧ Aside0 (Below w.heap.size w w'))
        case atStart => exact ⟨(0), ((-1)), (0), (by first | rfl | (simp; done) | (simp [*]; done)), (by first | rfl | (simp; done) | (simp [*]; done)), (by first | rfl | (simp; done) | (simp [*]; done)), H', ⟨Nat.le_refl _⟩, ⟨by repeat (first | (with_reducible first | exact HB.out | apply below_alloc | apply pw_below_drewN | apply below_drew1) | exact HB.out)⟩⟩
        case round =>
          clear H'
          try clear c1
          try clear p2
          try clear c4
          try clear c5
          try clear c5b0
          try clear c5b1
          try clear c5b2
          try clear c7
          try clear c7b0
          try clear c7b1
          obtain ⟨x7_1, x8_1, x23_1, rfl, rfl, rfl, HA, HK1, HB⟩ := hrel
          cases gk with
          | zero => exact absurd HA.out (by simp [place_Farthest.l0])
          | succ k1 =>
            have H := HA.out; clear HA
            simp only [place_Farthest.l0] at H
            by_cases c10 : x23_1 < (l1.length : Int)
            · rw [if_pos c10] at H
              have c10b0 : decide (x23_1 < (l1.length : Int)) = true := decide_eq_true c10; clear c10
              by_cases c11 : 0 ≤ x23_1
              · rw [if_pos c11] at H
                have c11b0 : decide (0 ≤ x23_1) = true := decide_eq_true c11; clear c11
                by_cases c12 : x23_1 < (l1.length : Int)
                · rw [if_pos c12] at H
                  have c12b0 : decide (x23_1 < (l1.length : Int)) = true := decide_eq_true c12; clear c12; replace H := Option.bind_eq_some_iff.mp H; obtain ⟨t312, A130, H⟩ := H; (replace H : (if t312 = true then ((place_middle.f k1 a0).bind fun bt313 => ((place_middle.f k1 (rdOf ByteArray.empty l1 x23_1)).bind fun bt315 => ((place_distance.f k1 bt313.1 bt313.2 bt315.1 bt315.2).bind fun t317 => (if t317 > x8_1 then (place_Farthest.l0 k1 a0 x23_1 t317 l1 (l1.length : Int) (wrap64 (x23_1 + 1))) else (place_Farthest.l0 k1 a0 x7_1 x8_1 l1 (l1.length : Int) (wrap64 (x23_1 + 1))))))) else (some (0, 0, 3))) = some (r1, r2, r3) := H); have A13 := Aside0.mk A130; clear A130
                  by_cases c14 : t312 = true
                  · subst c14
                    (have H1 : ((place_middle.f k1 a0).bind fun bt313 => ((place_middle.f k1 (rdOf ByteArray.empty l1 x23_1)).bind fun bt315 => ((place_distance.f k1 bt313.1 bt313.2 bt315.1 bt315.2).bind fun t317 => (if t317 > x8_1 then (place_Farthest.l0 k1 a0 x23_1 t317 l1 (l1.length : Int) (wrap64 (x23_1 + 1))) else (place_Farthest.l0 k1 a0 x7_1 x8_1 l1 (l1.length : Int) (wrap64 (x23_1 + 1))))))) = some (r1, r2, r3) := by rw [if_pos rfl] at H; exact H); clear H; have H := H1; clear H1; replace H := Option.bind_eq_some_iff.mp H; obtain ⟨⟨t313, t314⟩, A150, H⟩ := H; (replace H : ((place_middle.f k1 (rdOf ByteArray.empty l1 x23_1)).bind fun bt315 => ((place_distance.f k1 t313 t314 bt315.1 bt315.2).bind fun t317 => (if t317 > x8_1 then (place_Farthest.l0 k1 a0 x23_1 t317 l1 (l1.length : Int) (wrap64 (x23_1 + 1))) else (place_Farthest.l0 k1 a0 x7_1 x8_1 l1 (l1.length : Int) (wrap64 (x23_1 + 1)))))) = some (r1, r2, r3) := H); have A15 := Aside0.mk A150; clear A150; replace H := Option.bind_eq_some_iff.mp H; obtain ⟨⟨t315, t316⟩, A160, H⟩ := H; (replace H : ((place_distance.f k1 t313 t314 t315 t316).bind fun t317 => (if t317 > x8_1 then (place_Farthest.l0 k1 a0 x23_1 t317 l1 (l1.length : Int) (wrap64 (x23_1 + 1))) else (place_Farthest.l0 k1 a0 x7_1 x8_1 l1 (l1.length : Int) (wrap64 (x23_1 + 1))))) = some (r1, r2, r3) := H); have A16 := Aside0.mk A160; clear A160; replace H := Option.bind_eq_some_iff.mp H; obtain ⟨t317, A170, H⟩ := H; replace H : (if t317 > x8_1 then (place_Farthest.l0 k1 a0 x23_1 t317 l1 (l1.length : Int) (wrap64 (x23_1 + 1))) else (place_Farthest.l0 k1 a0 x7_1 x8_1 l1 (l1.length : Int) (wrap64 (x23_1 + 1)))) = some (r1, r2, r3) := H; have A17 := Aside0.mk A170; clear A170
                    by_cases c18 : t317 > x8_1
                    · rw [if_pos c18] at H
                      have c18b0 : decide (x8_1 < t317) = true := decide_eq_true c18; clear c18; have H' := Aside0.mk H; clear H; (have p311 : 0 ≤ (x23_1 : Int) := of_decide_eq_true (by first | (with_reducible assumption) | assumption)); (have q311 : x23_1 < (l1.length : Int) := of_decide_eq_true (by first | (with_reducible assumption) | assumption)); obtain ⟨ad311, e311, hx311_0⟩ := Kd.at_string HR1.out x23_1 p311 q311
                      cases e311
                      replace hx311_0 := (HB.out.cell (World.block_lt_of_cell? w _ hx311_0)).trans hx311_0; replace p311 := eq_true p311; replace q311 := eq_true q311
                      go_wp2_with (first | ((with_reducible refine gate_callee (f := 74) rfl ?_); refine goesL_ (some 29) rfl rfl Try.func74 (by kernel_rfl) rfl #[.string (rdOf ByteArray.empty l1 x23_1)] rfl (by (try simp only [List.map_toArray, List.map_cons, List.map_nil]); first | done | rfl | (simp only [List.length_drop, List.length_take]; rfl)) ?_; (with_reducible refine (place_IsLocator.calls k1 (rdOf ByteArray.empty l1 x23_1) true _ A13.out).mono ?_); rintro e w19 ⟨rfl, hb⟩; refine ⟨_, rfl, ?_⟩; have n0_ := Aside0.mk (below_step (by repeat (first | (with_reducible first | exact HB.out | apply below_alloc | apply pw_below_drewN | apply below_drew1) | exact HB.out)) hb); clear HB; have HB := n0_; clear n0_; (try clear hb); (try clear hb2); (try clear hk); (try clear hi)) | ((with_reducible refine gate_callee (f := 75) rfl ?_); refine goesL_ (some 32) rfl rfl Try.func75 (by kernel_rfl) rfl #[.string a0] rfl (by (try simp only [List.map_toArray, List.map_cons, List.map_nil]); first | done | rfl | (simp only [List.length_drop, List.length_take]; rfl)) ?_; (with_reducible refine (place_middle.calls k1 a0 t313 t314 _ A15.out).mono ?_); rintro e w20 ⟨rfl, hb⟩; refine ⟨_, rfl, ?_⟩; have n0_ := Aside0.mk (below_step (by repeat (first | (with_reducible first | exact HB.out | apply below_alloc | apply pw_below_drewN | apply below_drew1) | exact HB.out)) hb); clear HB; have HB := n0_; clear n0_; (try clear hb); (try clear hb2); (try clear hk); (try clear hi)) | ((with_reducible refine gate_callee (f := 75) rfl ?_); refine goesL_ (some 34) rfl rfl Try.func75 (by kernel_rfl) rfl #[.string (rdOf ByteArray.empty l1 x23_1)] rfl (by (try simp only [List.map_toArray, List.map_cons, List.map_nil]); first | done | rfl | (simp only [List.length_drop, List.length_take]; rfl)) ?_; (with_reducible refine (place_middle.calls k1 (rdOf ByteArray.empty l1 x23_1) t315 t316 _ A16.out).mono ?_); rintro e w21 ⟨rfl, hb⟩; refine ⟨_, rfl, ?_⟩; have n0_ := Aside0.mk (below_step (by repeat (first | (with_reducible first | exact HB.out | apply below_alloc | apply pw_below_drewN | apply below_drew1) | exact HB.out)) hb); clear HB; have HB := n0_; clear n0_; (try clear hb); (try clear hb2); (try clear hk); (try clear hi)) | ((with_reducible refine gate_callee (f := 66) rfl ?_); refine goesL_ (some 35) rfl rfl Try.func66 (by kernel_rfl) rfl #[.agg #[.int .i64 t313, .int .i64 t314], .agg #[.int .i64 t315, .int .i64 t316]] rfl (by (try simp only [List.map_toArray, List.map_cons, List.map_nil]); first | done | rfl | (simp only [List.length_drop, List.length_take]; rfl)) ?_; (with_reducible refine (place_distance.calls k1 t313 t314 t315 t316 t317 _ A17.out).mono ?_); rintro e w22 ⟨rfl, hb⟩; refine ⟨_, rfl, ?_⟩; have n0_ := Aside0.mk (below_step (by repeat (first | (with_reducible first | exact HB.out | apply below_alloc | apply pw_below_drewN | apply below_drew1) | exact HB.out)) hb); clear HB; have HB := n0_; clear n0_; (try clear hb); (try clear hb2); (try clear hk); (try clear hi)))
                      go_roundg k1
                      case measure => have := HK1.out; omega
                      case rel => exact ⟨(x23_1), (t317), (wrap64 (x23_1 + 1)), (by first | rfl | (simp; done) | (simp [*]; done)), (by first | rfl | (simp; done) | (simp [*]; done)), (by first | rfl | (simp; done) | (simp [*]; done)), H', ⟨by have := HK1.out; omega⟩, ⟨by repeat (first | (with_reducible first | exact HB.out | apply below_alloc | apply pw_below_drewN | apply below_drew1) | exact HB.out)⟩⟩
                    · rw [if_neg c18] at H
                      have c18b0 : decide (x8_1 < t317) = false := decide_eq_false c18; clear c18; have H' := Aside0.mk H; clear H; (have p311 : 0 ≤ (x23_1 : Int) := of_decide_eq_true (by first | (with_reducible assumption) | assumption)); (have q311 : x23_1 < (l1.length : Int) := of_decide_eq_true (by first | (with_reducible assumption) | assumption)); obtain ⟨ad311, e311, hx311_0⟩ := Kd.at_string HR1.out x23_1 p311 q311
                      cases e311
                      replace hx311_0 := (HB.out.cell (World.block_lt_of_cell? w _ hx311_0)).trans hx311_0; replace p311 := eq_true p311; replace q311 := eq_true q311
                      go_wp2_with (first | ((with_reducible refine gate_callee (f := 74) rfl ?_); refine goesL_ (some 29) rfl rfl Try.func74 (by kernel_rfl) rfl #[.string (rdOf ByteArray.empty l1 x23_1)] rfl (by (try simp only [List.map_toArray, List.map_cons, List.map_nil]); first | done | rfl | (simp only [List.length_drop, List.length_take]; rfl)) ?_; (with_reducible refine (place_IsLocator.calls k1 (rdOf ByteArray.empty l1 x23_1) true _ A13.out).mono ?_); rintro e w23 ⟨rfl, hb⟩; refine ⟨_, rfl, ?_⟩; have n0_ := Aside0.mk (below_step (by repeat (first | (with_reducible first | exact HB.out | apply below_alloc | apply pw_below_drewN | apply below_drew1) | exact HB.out)) hb); clear HB; have HB := n0_; clear n0_; (try clear hb); (try clear hb2); (try clear hk); (try clear hi)) | ((with_reducible refine gate_callee (f := 75) rfl ?_); refine goesL_ (some 32) rfl rfl Try.func75 (by kernel_rfl) rfl #[.string a0] rfl (by (try simp only [List.map_toArray, List.map_cons, List.map_nil]); first | done | rfl | (simp only [List.length_drop, List.length_take]; rfl)) ?_; (with_reducible refine (place_middle.calls k1 a0 t313 t314 _ A15.out).mono ?_); rintro e w24 ⟨rfl, hb⟩; refine ⟨_, rfl, ?_⟩; have n0_ := Aside0.mk (below_step (by repeat (first | (with_reducible first | exact HB.out | apply below_alloc | apply pw_below_drewN | apply below_drew1) | exact HB.out)) hb); clear HB; have HB := n0_; clear n0_; (try clear hb); (try clear hb2); (try clear hk); (try clear hi)) | ((with_reducible refine gate_callee (f := 75) rfl ?_); refine goesL_ (some 34) rfl rfl Try.func75 (by kernel_rfl) rfl #[.string (rdOf ByteArray.empty l1 x23_1)] rfl (by (try simp only [List.map_toArray, List.map_cons, List.map_nil]); first | done | rfl | (simp only [List.length_drop, List.length_take]; rfl)) ?_; (with_reducible refine (place_middle.calls k1 (rdOf ByteArray.empty l1 x23_1) t315 t316 _ A16.out).mono ?_); rintro e w25 ⟨rfl, hb⟩; refine ⟨_, rfl, ?_⟩; have n0_ := Aside0.mk (below_step (by repeat (first | (with_reducible first | exact HB.out | apply below_alloc | apply pw_below_drewN | apply below_drew1) | exact HB.out)) hb); clear HB; have HB := n0_; clear n0_; (try clear hb); (try clear hb2); (try clear hk); (try clear hi)) | ((with_reducible refine gate_callee (f := 66) rfl ?_); refine goesL_ (some 35) rfl rfl Try.func66 (by kernel_rfl) rfl #[.agg #[.int .i64 t313, .int .i64 t314], .agg #[.int .i64 t315, .int .i64 t316]] rfl (by (try simp only [List.map_toArray, List.map_cons, List.map_nil]); first | done | rfl | (simp only [List.length_drop, List.length_take]; rfl)) ?_; (with_reducible refine (place_distance.calls k1 t313 t314 t315 t316 t317 _ A17.out).mono ?_); rintro e w26 ⟨rfl, hb⟩; refine ⟨_, rfl, ?_⟩; have n0_ := Aside0.mk (below_step (by repeat (first | (with_reducible first | exact HB.out | apply below_alloc | apply pw_below_drewN | apply below_drew1) | exact HB.out)) hb); clear HB; have HB := n0_; clear n0_; (try clear hb); (try clear hb2); (try clear hk); (try clear hi)))
                      go_roundg k1
                      case measure => have := HK1.out; omega
                      case rel => exact ⟨(x7_1), (x8_1), (wrap64 (x23_1 + 1)), (by first | rfl | (simp; done) | (simp [*]; done)), (by first | rfl | (simp; done) | (simp [*]; done)), (by first | rfl | (simp; done) | (simp [*]; done)), H', ⟨by have := HK1.out; omega⟩, ⟨by repeat (first | (with_reducible first | exact HB.out | apply below_alloc | apply pw_below_drewN | apply below_drew1) | exact HB.out)⟩⟩
                  · replace c14 := Bool.eq_false_iff.mpr c14
                    subst c14; (have H1 : (some (0, 0, 3)) = some (r1, r2, r3) := by rw [if_neg (show ¬ (false = true) by decide)] at H; exact H); clear H; have H := H1; clear H1
                    simp only [Option.some.injEq, Prod.mk.injEq] at H
                    obtain ⟨rfl, rfl, rfl⟩ := H; (have p311 : 0 ≤ (x23_1 : Int) := of_decide_eq_true (by first | (with_reducible assumption) | assumption)); (have q311 : x23_1 < (l1.length : Int) := of_decide_eq_true (by first | (with_reducible assumption) | assumption)); obtain ⟨ad311, e311, hx311_0⟩ := Kd.at_string HR1.out x23_1 p311 q311
                    cases e311
                    replace hx311_0 := (HB.out.cell (World.block_lt_of_cell? w _ hx311_0)).trans hx311_0; replace p311 := eq_true p311; replace q311 := eq_true q311
                    go_wp2_with (first | ((with_reducible refine gate_callee (f := 74) rfl ?_); refine goesL_ (some 29) rfl rfl Try.func74 (by kernel_rfl) rfl #[.string (rdOf ByteArray.empty l1 x23_1)] rfl (by (try simp only [List.map_toArray, List.map_cons, List.map_nil]); first | done | rfl | (simp only [List.length_drop, List.length_take]; rfl)) ?_; (with_reducible refine (place_IsLocator.calls k1 (rdOf ByteArray.empty l1 x23_1) false _ A13.out).mono ?_); rintro e w27 ⟨rfl, hb⟩; refine ⟨_, rfl, ?_⟩; have n0_ := Aside0.mk (below_step (by repeat (first | (with_reducible first | exact HB.out | apply below_alloc | apply pw_below_drewN | apply below_drew1) | exact HB.out)) hb); clear HB; have HB := n0_; clear n0_; (try clear hb); (try clear hb2); (try clear hk); (try clear hi)))
                    go_ret3
                    exact ⟨by first | rfl | (simp [errW_none, errW_some] <;> rfl) | (simp [*, errW_none, errW_some] <;> rfl), by repeat (first | (with_reducible first | exact HB.out | apply below_alloc | apply pw_below_drewN | apply below_drew1) | exact HB.out)⟩
                · rw [if_neg c12] at H
                  exact absurd H (by simp)
              · rw [if_neg c11] at H
                exact absurd H (by simp)
            · rw [if_neg c10] at H
              have c10b0 : decide (x23_1 < (l1.length : Int)) = false := decide_eq_false c10; clear c10
              simp only [Option.some.injEq, Prod.mk.injEq] at H
              obtain ⟨rfl, rfl, rfl⟩ := H
              go_wp2
              go_ret3
              exact ⟨by first | rfl | (simp [errW_none, errW_some] <;> rfl) | (simp [*, errW_none, errW_some] <;> rfl), by repeat (first | (with_reducible first | exact HB.out | apply below_alloc | apply pw_below_drewN | apply below_drew1) | exact HB.out)⟩
  · replace c4 := Bool.eq_false_iff.mpr c4
    subst c4; (have H1 : (some (0, 0, 3)) = some (r1, r2, r3) := by rw [if_neg (show ¬ (false = true) by decide)] at H; exact H); clear H; have H := H1; clear H1
    simp only [Option.some.injEq, Prod.mk.injEq] at H
    obtain ⟨rfl, rfl, rfl⟩ := H
    go_enter Try.func43, Try.ntmps43
    go_wp2_with (first | ((with_reducible refine gate_callee (f := 74) rfl ?_); refine goesL_ (some 13) rfl rfl Try.func74 (by kernel_rfl) rfl #[.string a0] rfl (by (try simp only [List.map_toArray, List.map_cons, List.map_nil]); first | done | rfl | (simp only [List.length_drop, List.length_take]; rfl)) ?_; (with_reducible refine (place_IsLocator.calls k a0 false _ A3.out).mono ?_); rintro e w28 ⟨rfl, hb⟩; refine ⟨_, rfl, ?_⟩; have n0_ := Aside0.mk (below_step (by repeat (first | (with_reducible first | exact HB.out | apply below_alloc | apply pw_below_drewN | apply below_drew1) | exact HB.out)) hb); clear HB; have HB := n0_; clear n0_; (try clear hb); (try clear hb2); (try clear hk); (try clear hi)))
    go_ret3
    exact ⟨by first | rfl | (simp [errW_none, errW_some] <;> rfl) | (simp [*, errW_none, errW_some] <;> rfl), by repeat (first | (with_reducible first | exact HB.out | apply below_alloc | apply pw_below_drewN | apply below_drew1) | exact HB.out)⟩

/-! ### pileref1_LocatorRight: function 76 -/
-- FOREIGN rounds=0 making=1
/-- Is byte i of a locator one that may stand there? -/
def locOk (s : ByteArray) (i : Nat) : Bool :=
  if i = 2 ∨ i = 3 then decide (48 ≤ bt s i ∧ bt s i ≤ 57) else if i < 2 then decide (97 ≤ bt s i ∧ bt s i ≤ 114) else decide (97 ≤ bt s i ∧ bt s i ≤ 120)
def pileref1_LocatorRight.f (a0 : ByteArray) : Option Bool := some (decide (a0.size = 2 ∨ a0.size = 4 ∨ a0.size = 6) && (List.range a0.size).all (locOk a0))
theorem iterPos_at {w : World} {k : Nat} {s : ByteArray} {p : Nat} (h : w.heap[k]? = some (.stringIter s p)) : w.iterPos k = p := by simp [World.iterPos, h]
theorem bt_get (s : ByteArray) (i : Nat) (h : i < s.size) : bt s (i : Int) = ((s[i]'h).toNat : Int) := by
  simp [bt, h]
theorem locOk_at (s : ByteArray) (i : Nat) (h : i < s.size) : locOk s i = if i = 2 ∨ i = 3 then decide (48 ≤ (s[i]'h).toNat ∧ (s[i]'h).toNat ≤ 57) else if i < 2 then decide (97 ≤ (s[i]'h).toNat ∧ (s[i]'h).toNat ≤ 114) else decide (97 ≤ (s[i]'h).toNat ∧ (s[i]'h).toNat ≤ 120) := by
  unfold locOk
  rw [bt_get s i h]
  split
  · rw [decide_eq_decide]; omega
  · split
    · rw [decide_eq_decide]; omega
    · rw [decide_eq_decide]; omega
theorem all_bad {s : ByteArray} {i : Nat} (h : i < s.size) (hb : locOk s i = false) : (List.range s.size).all (locOk s) = false := by
  rw [List.all_eq_false]
  exact ⟨i, List.mem_range.2 h, by simp [hb]⟩
theorem decode_w (s : ByteArray) (i : Nat) (h : i < s.size) (ha : (s[i]'h).toNat < 128) : (Utf8.decode s i).2 = 1 := by rw [decode_ascii s i h ha]
theorem all_next {s : ByteArray} {i : Nat} (h : ∀ j < i, locOk s j = true) (h2 : locOk s i = true) : ∀ j < i + 1, locOk s j = true := by
  intro j hj
  rcases (by omega : j < i ∨ j = i) with c | c
  · exact h j c
  · rw [c]; exact h2
set_option maxHeartbeats 8000000 in
set_option maxRecDepth 100000 in
theorem pileref1_LocatorRight.calls (a0 : ByteArray) (r : Bool) (w : World) (h : pileref1_LocatorRight.f a0 = some r) :
    Calls Try.prog 76 #[.string a0] w fun e w' => e = .returned (.bool r) ∧ Below w.heap.size w w' := by
  have hr : r = (decide (a0.size = 2 ∨ a0.size = 4 ∨ a0.size = 6) && (List.range a0.size).all (locOk a0)) := (Option.some.inj h).symm
  by_cases c : a0.size = 2 ∨ a0.size = 4 ∨ a0.size = 6
  · simp only [c, decide_true, Bool.true_and] at hr
    have hs : a0.size ≤ 6 := by omega
    clear h
    have HR := Aside0.mk hr
    clear hr
    rcases c with c | c | c
    all_goals
      have cz : (a0.size : Int) = _ := congrArg Nat.cast c
      go_enter Try.func76, Try.ntmps76
      go_wp2
      first
        | omega
        | (go_loopw [] (fun wr => ∃ pos : Nat, wr.heap[w.heap.size]? = some (.stringIter a0 pos) ∧ pos ≤ a0.size ∧ Hid (∀ j < pos, locOk a0 j = true) ∧ Below w.heap.size w wr) (fun wr => a0.size - wr.iterPos w.heap.size)
           case atStart => exact ⟨0, World.iter_heap w a0 0, by omega, (fun j hj => absurd hj (by omega)), (Below.refl _ _).alloc (Nat.le_refl _) _⟩
           case round =>
             obtain ⟨pos, hit, hpz, HS, hbw⟩ := hrel
             have hpos0 := iterPos_at hit
             by_cases hp : pos < a0.size
             · have hnx : ∀ ty, (Instr.next (.pointer (some ⟨w.heap.size, 0, none⟩)) true ty).run Try.prog wr = _ := fun ty => Lib.run_next_any_at wr w.heap.size a0 pos ty hit hp
               have hit2 := Lib.iterAt_heap wr w.heap.size a0 pos (pos + (Utf8.decode a0 pos).2) hit
               have hbw2 := Lib.below_iterAt hbw (k := w.heap.size) (Nat.le_refl _) a0 (pos + (Utf8.decode a0 pos).2)
               obtain ⟨W1, hW1⟩ : ∃ W1, W1 = wr.iterAt w.heap.size a0 (pos + (Utf8.decode a0 pos).2) := ⟨_, rfl⟩
               rw [← hW1] at hnx hit2 hbw2
               clear hW1 hit hbw
               have key := locOk_at a0 pos hp
               have hbad := fun h => all_bad hp h
               have hw := fun h => decode_w a0 pos hp h
               have hq : pos = 0 ∨ pos = 1 ∨ pos = 2 ∨ pos = 3 ∨ pos = 4 ∨ pos = 5 := by omega
               rcases hq with rfl | rfl | rfl | rfl | rfl | rfl
               all_goals first
                 | omega
                 | (have key := Aside0.mk key
                    have hbad := Aside0.mk hbad
                    have hw := Aside0.mk hw
                    have k0 : ∀ h, ((⟨#[114, 114, 57, 57, 120, 120]⟩ : ByteArray)[0]'h).toNat = 114 := fun _ => rfl
                    have k1 : ∀ h, ((⟨#[114, 114, 57, 57, 120, 120]⟩ : ByteArray)[1]'h).toNat = 114 := fun _ => rfl
                    have k2 : ∀ h, ((⟨#[114, 114, 57, 57, 120, 120]⟩ : ByteArray)[2]'h).toNat = 57 := fun _ => rfl
                    have k3 : ∀ h, ((⟨#[114, 114, 57, 57, 120, 120]⟩ : ByteArray)[3]'h).toNat = 57 := fun _ => rfl
                    have k4 : ∀ h, ((⟨#[114, 114, 57, 57, 120, 120]⟩ : ByteArray)[4]'h).toNat = 120 := fun _ => rfl
                    have k5 : ∀ h, ((⟨#[114, 114, 57, 57, 120, 120]⟩ : ByteArray)[5]'h).toNat = 120 := fun _ => rfl
                    go_wp2
                    all_goals simp only [k0, k1, k2, k3, k4, k5] at *
                    all_goals first
                      | omega
                      | (exfalso; revert ‹(_ == _) = _›; decide)
                      | (go_ret
                         exact ⟨by rw [HR.out, hbad.out (by rw [key.out]; simp; omega)]; rfl, hbw2⟩)
                      | (have hok := key.out
                         have hw1 := hw.out (by omega)
                         rw [hw1] at hit2
                         refine ⟨⟨_, hit2, by omega, ?_, hbw2⟩, by rw [iterPos_at hit2, hpos0]; omega⟩
                         exact all_next HS (by rw [hok]; simp; omega))
                      | trace_state)
             · have hnx : ∀ ty, (Instr.next (.pointer (some ⟨w.heap.size, 0, none⟩)) true ty).run Try.prog wr = _ := fun ty => Lib.run_next_end_at wr w.heap.size a0 pos ty hit hp
               have hall : (List.range a0.size).all (locOk a0) = true := List.all_eq_true.2 fun j hj => HS j (by have := List.mem_range.1 hj; omega)
               have hall := Aside0.mk hall
               go_wp2
               go_ret
               exact ⟨by rw [HR.out, hall.out]; rfl, hbw⟩)
  · simp only [c, decide_false, Bool.false_and] at hr
    subst hr
    have n2 : ((a0.size : Int) != 2) = true := by rw [bne_iff_ne]; omega
    have n4 : ((a0.size : Int) != 4) = true := by rw [bne_iff_ne]; omega
    have n6 : ((a0.size : Int) != 6) = true := by rw [bne_iff_ne]; omega
    go_enter Try.func76, Try.ntmps76
    go_wp2
    go_ret
    exact ⟨rfl, Below.refl _ _⟩

/-! ### pileref1_LocatorFault: function 44 -/
def pileref1_LocatorFault.f (a0 : ByteArray) : Option (Int) := (pileref1_LocatorRight.f a0).bind fun t318 => (if t318 = true then (some 0) else (some 3))
set_option maxHeartbeats 8000000 in
set_option maxRecDepth 100000 in
theorem pileref1_LocatorFault.calls (a0 : ByteArray) (r : Int) (w : World) (h : pileref1_LocatorFault.f a0 = some r) :
    Calls Try.prog 44 #[.string a0] w fun e w' => e = .returned (.int .i64 r) ∧ Below w.heap.size w w' := by
  have HB := Aside0.mk (Below.refl w.heap.size w); (have H : ((pileref1_LocatorRight.f a0).bind fun t318 => (if t318 = true then (some 0) else (some 3))) = some r := h); clear h; replace H := Option.bind_eq_some_iff.mp H; obtain ⟨t318, A20, H⟩ := H; replace H : (if t318 = true then (some 0) else (some 3)) = some r := H; have A2 := Aside0.mk A20; clear A20
  by_cases c3 : t318 = true
  · subst c3
    (have H1 : (some 0) = some r := by rw [if_pos rfl] at H; exact H); clear H; have H := H1; clear H1; obtain rfl := Option.some.inj H
    go_enter Try.func44, Try.ntmps44
    go_wp2_with (first | ((with_reducible refine gate_callee (f := 76) rfl ?_); refine goesL_ (some 4) rfl rfl Try.func76 (by kernel_rfl) rfl #[.string a0] rfl (by (try simp only [List.map_toArray, List.map_cons, List.map_nil]); first | done | rfl | (simp only [List.length_drop, List.length_take]; rfl)) ?_; (with_reducible refine (pileref1_LocatorRight.calls a0 true _ A2.out).mono ?_); rintro e w4 ⟨rfl, hb⟩; refine ⟨_, rfl, ?_⟩; have n0_ := Aside0.mk (below_step (by repeat (first | (with_reducible first | exact HB.out | apply below_alloc | apply pw_below_drewN | apply below_drew1) | exact HB.out)) hb); clear HB; have HB := n0_; clear n0_; (try clear hb); (try clear hb2); (try clear hk); (try clear hi)))
    go_ret
    exact ⟨by first | rfl | (simp [errW_none, errW_some] <;> rfl) | (simp [*, errW_none, errW_some] <;> rfl), by repeat (first | (with_reducible first | exact HB.out | apply below_alloc | apply pw_below_drewN | apply below_drew1) | exact HB.out)⟩
  · replace c3 := Bool.eq_false_iff.mpr c3
    subst c3; (have H1 : (some 3) = some r := by rw [if_neg (show ¬ (false = true) by decide)] at H; exact H); clear H; have H := H1; clear H1; obtain rfl := Option.some.inj H
    go_enter Try.func44, Try.ntmps44
    go_wp2_with (first | ((with_reducible refine gate_callee (f := 76) rfl ?_); refine goesL_ (some 4) rfl rfl Try.func76 (by kernel_rfl) rfl #[.string a0] rfl (by (try simp only [List.map_toArray, List.map_cons, List.map_nil]); first | done | rfl | (simp only [List.length_drop, List.length_take]; rfl)) ?_; (with_reducible refine (pileref1_LocatorRight.calls a0 false _ A2.out).mono ?_); rintro e w5 ⟨rfl, hb⟩; refine ⟨_, rfl, ?_⟩; have n0_ := Aside0.mk (below_step (by repeat (first | (with_reducible first | exact HB.out | apply below_alloc | apply pw_below_drewN | apply below_drew1) | exact HB.out)) hb); clear HB; have HB := n0_; clear n0_; (try clear hb); (try clear hb2); (try clear hk); (try clear hi)))
    go_ret
    exact ⟨by first | rfl | (simp [errW_none, errW_some] <;> rfl) | (simp [*, errW_none, errW_some] <;> rfl), by repeat (first | (with_reducible first | exact HB.out | apply below_alloc | apply pw_below_drewN | apply below_drew1) | exact HB.out)⟩

/-! ### pileref1_LocatorsFault: function 45 -/
def pileref1_LocatorsFault.l0 : Nat → List ByteArray → Int → Int → Option (Int)
  | 0, _, _, _ => none
  | k + 1, x9, x10, x11 => if x11 < x10 then (if 0 ≤ x11 then (if x11 < (x9.length : Int) then ((pileref1_LocatorFault.f (rdOf ByteArray.empty x9 x11)).bind fun t320 => (if t320 = 0 then (pileref1_LocatorsFault.l0 k x9 x10 (wrap64 (x11 + 1))) else (some t320))) else (none)) else (none)) else (some 0)
def pileref1_LocatorsFault.f (k : Nat) (l0 : List ByteArray) : Option (Int) := if (l0.length : Int) > 2000 then (some 2) else (pileref1_LocatorsFault.l0 k l0 (l0.length : Int) 0)
theorem pileref1_LocatorsFault.mono_l : ∀ k, (∀ y0 y1 y2, LeO (pileref1_LocatorsFault.l0 k y0 y1 y2) (pileref1_LocatorsFault.l0 (k + 1) y0 y1 y2))
  | 0 => fun _ _ _ r h => by simp [pileref1_LocatorsFault.l0] at h
  | k + 1 => by
    have ih0 := pileref1_LocatorsFault.mono_l k
    · intro y0 y1 y2
      unfold pileref1_LocatorsFault.l0
      repeat' first | (with_reducible apply ih0) | (with_reducible exact LeO.refl _) | (with_reducible exact LeO.none _) | (with_reducible refine LeO.ite ?_ ?_) | (with_reducible refine LeO.bind ?_ (fun _ => ?_)) | apply ih0 | exact LeO.none _ | refine LeO.ite ?_ ?_ | refine LeO.bind ?_ (fun _ => ?_)
theorem pileref1_LocatorsFault.mono : ∀ a0 k, LeO (pileref1_LocatorsFault.f k a0) (pileref1_LocatorsFault.f (k + 1) a0) := by
  intro a0 k
  have ih0 := pileref1_LocatorsFault.mono_l k
  unfold pileref1_LocatorsFault.f
  repeat' first | (with_reducible apply ih0) | (with_reducible exact LeO.refl _) | (with_reducible exact LeO.none _) | (with_reducible refine LeO.ite ?_ ?_) | (with_reducible refine LeO.bind ?_ (fun _ => ?_)) | apply ih0 | exact LeO.none _ | refine LeO.ite ?_ ?_ | refine LeO.bind ?_ (fun _ => ?_)
set_option maxHeartbeats 8000000 in
set_option maxRecDepth 100000 in
theorem pileref1_LocatorsFault.calls (k : Nat) (A0 : Option Addr) (c0 : Nat) (l0 : List ByteArray) (r : Int) (w : World) (hr0 : Kd.C Kd.string w A0 l0.length l0) (hc0 : l0.length ≤ c0) (h : pileref1_LocatorsFault.f k l0 = some r) :
    Calls Try.prog 45 #[.slice A0 l0.length c0] w fun e w' => e = .returned (.int .i64 r) ∧ Below w.heap.size w w' := by
  have HR0 := Aside0.mk hr0; have HC0 := Aside0.mk hc0; clear hr0 hc0; have HB := Aside0.mk (Below.refl w.heap.size w); have H : (if (l0.length : Int) > 2000 then (some 2) else (pileref1_LocatorsFault.l0 k l0 (l0.length : Int) 0)) = some r := h; clear h
  by_cases c2 : (l0.length : Int) > 2000
  · rw [if_pos c2] at H
    have c2b0 : decide (2000 < (l0.length : Int)) = true := decide_eq_true c2; (have c2b1 : decide (2000 < l0.length) = true := decide_eq_true (by omega)); clear c2; obtain rfl := Option.some.inj H
    go_enter Try.func45, Try.ntmps45
    go_wp2
    go_ret
    exact ⟨by first | rfl | (simp [errW_none, errW_some] <;> rfl) | (simp [*, errW_none, errW_some] <;> rfl), by repeat (first | (with_reducible first | exact HB.out | apply below_alloc | apply pw_below_drewN | apply below_drew1) | exact HB.out)⟩
  · rw [if_neg c2] at H
    have c2b0 : decide (2000 < (l0.length : Int)) = false := decide_eq_false c2; (have c2b1 : decide (2000 < l0.length) = false := decide_eq_false (by omega)); clear c2; have H' := Aside0.mk H; clear H
    go_enter Try.func45, Try.ntmps45
    go_wp2
    go_loopg [11] k (fun kq v11 w' => ∃ (x11_1 : Int), v11 = .int .i64 x11_1 ∧ Aside0 (pileref1_LocatorsFault.l0 kq l0 (l0.length : Int) x11_1 = some r) ∧ Aside0 (kq ≤ k) ∧ Aside0 (Below w.heap.size w w'))
    case atStart => exact ⟨(0), (by first | rfl | (simp; done) | (simp [*]; done)), H', ⟨Nat.le_refl _⟩, ⟨by repeat (first | (with_reducible first | exact HB.out | apply below_alloc | apply pw_below_drewN | apply below_drew1) | exact HB.out)⟩⟩
    case round =>
      clear H'
      try clear c2
      try clear c2b0
      try clear c2b1
      try clear p2
      obtain ⟨x11_1, rfl, HA, HK1, HB⟩ := hrel
      cases gk with
      | zero => exact absurd HA.out (by simp [pileref1_LocatorsFault.l0])
      | succ k1 =>
        have H := HA.out; clear HA
        simp only [pileref1_LocatorsFault.l0] at H
        by_cases c3 : x11_1 < (l0.length : Int)
        · rw [if_pos c3] at H
          have c3b0 : decide (x11_1 < (l0.length : Int)) = true := decide_eq_true c3; clear c3
          by_cases c4 : 0 ≤ x11_1
          · rw [if_pos c4] at H
            have c4b0 : decide (0 ≤ x11_1) = true := decide_eq_true c4; clear c4
            by_cases c5 : x11_1 < (l0.length : Int)
            · rw [if_pos c5] at H
              have c5b0 : decide (x11_1 < (l0.length : Int)) = true := decide_eq_true c5; clear c5; replace H := Option.bind_eq_some_iff.mp H; obtain ⟨t320, A60, H⟩ := H; replace H : (if t320 = 0 then (pileref1_LocatorsFault.l0 k1 l0 (l0.length : Int) (wrap64 (x11_1 + 1))) else (some t320)) = some r := H; have A6 := Aside0.mk A60; clear A60
              by_cases c7 : t320 = 0
              · rw [if_pos c7] at H
                have c7b0 : (t320 == 0) = true := beq_iff_eq.mpr c7; have c7b1 : (t320 != 0) = false := bne_eq_false_iff_eq.mpr c7; clear c7; have H' := Aside0.mk H; clear H; (have p319 : 0 ≤ (x11_1 : Int) := of_decide_eq_true (by first | (with_reducible assumption) | assumption)); (have q319 : x11_1 < (l0.length : Int) := of_decide_eq_true (by first | (with_reducible assumption) | assumption)); obtain ⟨ad319, e319, hx319_0⟩ := Kd.at_string HR0.out x11_1 p319 q319
                cases e319
                replace hx319_0 := (HB.out.cell (World.block_lt_of_cell? w _ hx319_0)).trans hx319_0; replace p319 := eq_true p319; replace q319 := eq_true q319
                go_wp2_with (first | ((with_reducible refine gate_callee (f := 44) rfl ?_); refine goesL_ (some 16) rfl rfl Try.func44 (by kernel_rfl) rfl #[.string (rdOf ByteArray.empty l0 x11_1)] rfl (by (try simp only [List.map_toArray, List.map_cons, List.map_nil]); first | done | rfl | (simp only [List.length_drop, List.length_take]; rfl)) ?_; (with_reducible refine (pileref1_LocatorFault.calls (rdOf ByteArray.empty l0 x11_1) t320 _ A6.out).mono ?_); rintro e w8 ⟨rfl, hb⟩; refine ⟨_, rfl, ?_⟩; have n0_ := Aside0.mk (below_step (by repeat (first | (with_reducible first | exact HB.out | apply below_alloc | apply pw_below_drewN | apply below_drew1) | exact HB.out)) hb); clear HB; have HB := n0_; clear n0_; (try clear hb); (try clear hb2); (try clear hk); (try clear hi)))
                go_roundg k1
                case measure => have := HK1.out; omega
                case rel => exact ⟨(wrap64 (x11_1 + 1)), (by first | rfl | (simp; done) | (simp [*]; done)), H', ⟨by have := HK1.out; omega⟩, ⟨by repeat (first | (with_reducible first | exact HB.out | apply below_alloc | apply pw_below_drewN | apply below_drew1) | exact HB.out)⟩⟩
              · rw [if_neg c7] at H
                have c7b0 : (t320 == 0) = false := beq_eq_false_iff_ne.mpr c7; have c7b1 : (t320 != 0) = true := bne_iff_ne.mpr c7; obtain rfl := Option.some.inj H; (have p319 : 0 ≤ (x11_1 : Int) := of_decide_eq_true (by first | (with_reducible assumption) | assumption)); (have q319 : x11_1 < (l0.length : Int) := of_decide_eq_true (by first | (with_reducible assumption) | assumption)); obtain ⟨ad319, e319, hx319_0⟩ := Kd.at_string HR0.out x11_1 p319 q319
                cases e319
                replace hx319_0 := (HB.out.cell (World.block_lt_of_cell? w _ hx319_0)).trans hx319_0; replace p319 := eq_true p319; replace q319 := eq_true q319
                go_wp2_with (first | ((with_reducible refine gate_callee (f := 44) rfl ?_); refine goesL_ (some 16) rfl rfl Try.func44 (by kernel_rfl) rfl #[.string (rdOf ByteArray.empty l0 x11_1)] rfl (by (try simp only [List.map_toArray, List.map_cons, List.map_nil]); first | done | rfl | (simp only [List.length_drop, List.length_take]; rfl)) ?_; (with_reducible refine (pileref1_LocatorFault.calls (rdOf ByteArray.empty l0 x11_1) t320 _ A6.out).mono ?_); rintro e w9 ⟨rfl, hb⟩; refine ⟨_, rfl, ?_⟩; have n0_ := Aside0.mk (below_step (by repeat (first | (with_reducible first | exact HB.out | apply below_alloc | apply pw_below_drewN | apply below_drew1) | exact HB.out)) hb); clear HB; have HB := n0_; clear n0_; (try clear hb); (try clear hb2); (try clear hk); (try clear hi)))
                go_ret
                exact ⟨by first | rfl | (simp [errW_none, errW_some] <;> rfl) | (simp [*, errW_none, errW_some] <;> rfl), by repeat (first | (with_reducible first | exact HB.out | apply below_alloc | apply pw_below_drewN | apply below_drew1) | exact HB.out)⟩
            · rw [if_neg c5] at H
              exact absurd H (by simp)
          · rw [if_neg c4] at H
            exact absurd H (by simp)
        · rw [if_neg c3] at H
          have c3b0 : decide (x11_1 < (l0.length : Int)) = false := decide_eq_false c3; clear c3; obtain rfl := Option.some.inj H
          go_wp2
          go_ret
          exact ⟨by first | rfl | (simp [errW_none, errW_some] <;> rfl) | (simp [*, errW_none, errW_some] <;> rfl), by repeat (first | (with_reducible first | exact HB.out | apply below_alloc | apply pw_below_drewN | apply below_drew1) | exact HB.out)⟩

/-! ### pileref1_sizeOf: function 86 -/
def pileref1_sizeOf.f (a0 : Int) : Option (Int) := if a0 = 2 then (some 72000) else (if a0 = 4 then (some 7200) else (some 300))
set_option maxHeartbeats 8000000 in
set_option maxRecDepth 100000 in
theorem pileref1_sizeOf.calls (a0 : Int) (r : Int) (w : World) (h : pileref1_sizeOf.f a0 = some r) :
    Calls Try.prog 86 #[.int .i64 a0] w fun e w' => e = .returned (.int .i64 r) ∧ Drawn0 w w' := by
  have H : (if a0 = 2 then (some 72000) else (if a0 = 4 then (some 7200) else (some 300))) = some r := h; clear h
  by_cases c2 : a0 = 2
  · rw [if_pos c2] at H
    have c2b0 : (a0 == 2) = true := beq_iff_eq.mpr c2; have c2b1 : (a0 != 2) = false := bne_eq_false_iff_eq.mpr c2; clear c2; obtain rfl := Option.some.inj H
    go_enter Try.func86, Try.ntmps86
    go_wp2
    go_ret
    exact ⟨by first | rfl | (simp; done) | (simp [*]; done), by repeat (first | exact Drawn0.refl _ | apply Drawn0.step)⟩
  · rw [if_neg c2] at H
    have c2b0 : (a0 == 2) = false := beq_eq_false_iff_ne.mpr c2; have c2b1 : (a0 != 2) = true := bne_iff_ne.mpr c2
    by_cases c3 : a0 = 4
    · rw [if_pos c3] at H
      have c3b0 : (a0 == 4) = true := beq_iff_eq.mpr c3; have c3b1 : (a0 != 4) = false := bne_eq_false_iff_eq.mpr c3; clear c3; obtain rfl := Option.some.inj H
      go_enter Try.func86, Try.ntmps86
      go_wp2
      go_ret
      exact ⟨by first | rfl | (simp; done) | (simp [*]; done), by repeat (first | exact Drawn0.refl _ | apply Drawn0.step)⟩
    · rw [if_neg c3] at H
      have c3b0 : (a0 == 4) = false := beq_eq_false_iff_ne.mpr c3; have c3b1 : (a0 != 4) = true := bne_iff_ne.mpr c3; obtain rfl := Option.some.inj H
      go_enter Try.func86, Try.ntmps86
      go_wp2
      go_ret
      exact ⟨by first | rfl | (simp; done) | (simp [*]; done), by repeat (first | exact Drawn0.refl _ | apply Drawn0.step)⟩

end Go.Proofs.Ytonnpocamipbiaa.PPlacesApart
