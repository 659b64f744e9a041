/- Printed by a program of this session: a Lean function for each function that the law reaches, and that the code comes to it. -/
import Derived.Test.YtfbepmnpdnekdaaGreatDoorXTopCallsAreKeyeda
set_option linter.unusedVariables false
set_option linter.unusedSimpArgs false
namespace Go.EV
open Go Go.Proofs Go.RowKit
set_option maxHeartbeats 4000000
set_option maxRecDepth 100000
set_option linter.unusedVariables false
/-! ### rate_in: function 121 -/
def rate_in.k0 : List DK := [⟨[14], [], [4], []⟩, ⟨[13], [], [14], []⟩, ⟨[8, 12], [], [13], []⟩, ⟨[9, 11], [], [12], []⟩, ⟨[10], [3], [11], []⟩, ⟨[3], [3], [10], []⟩, ⟨[0], [], [9], []⟩, ⟨[5, 7], [], [8], []⟩, ⟨[6], [3], [7], []⟩, ⟨[3], [3], [6], []⟩, ⟨[0], [], [5], []⟩]
def rate_in.k1 : List Nat := [0, 0, 2, 7, 0, 0, 32, 127, 255, 511, 1023]
def rate_in.f (k : Nat) (l0 : List Int) (a1_0 : Int) (a1_1 : Int) : Option (Int) := ((rate_before.f k l0 a1_1).bind fun r1 => ((rate_before.f k l0 a1_0).bind fun r2 => Option.some (mx 0 (wrap64 (r1 - r2)))))
theorem rate_in.ok (k : Nat) (l0 : List Int) (a1_0 : Int) (a1_1 : Int) (r : Int) (h : rate_in.f k l0 a1_0 a1_1 = some r) : Ct Tryz.prog B 121 [sq eI l0, .agg [.int .i64 a1_0, .int .i64 a1_1]] (ofL []) (.int .i64 r) (ofL []) := by
  refine Ct.of (Y := (fam Tryz.f121 [] [] [] (fun r : Int => .int .i64 r) (fun r => []))) Tryz.func121 rfl Tryz.call121 rfl rfl ?_ r h
  unfold rate_in.f
  refine RS.go ?_
  refine RT.goto rfl ?_
  refine RS.draw rfl ?_
  refine RD.call (CR := []) (CW := (fun r => [])) rfl (fun _ h => rate_before.ok k l0 a1_1 _ h) (fun i => i) trivial (fun _ => rfl) ⟨_, _, _, _, rfl, rfl, rfl⟩ (LeL.eq rfl) trivial (fun _ => rfl) (fun r1 => ?_)
  refine RD.call (CR := []) (CW := (fun r => [])) rfl (fun _ h => rate_before.ok k l0 a1_0 _ h) (fun i => i) trivial (fun _ => rfl) ⟨_, _, _, _, rfl, rfl, rfl⟩ (LeL.eq rfl) trivial (fun _ => rfl) (fun r2 => ?_)
  refine RD.fin rate_in.k0 rate_in.k1 rfl rfl (by decide +kernel) ?_
  refine RS.go ?_
  exact RT.done rfl rfl (Le.refl _) trivial rfl (dom0 rfl)
/-! ### rate_Best: function 62 -/
def rate_Best.k0 : List DK := [⟨[34], [], [11], []⟩, ⟨[25], [], [10], []⟩, ⟨[26, 33], [], [34], []⟩, ⟨[28, 32], [], [33], []⟩, ⟨[30, 31], [], [32], []⟩, ⟨[2], [], [31], []⟩, ⟨[29], [4], [30], []⟩, ⟨[4], [4], [29], []⟩, ⟨[27], [4], [28], []⟩, ⟨[4], [4], [27], []⟩, ⟨[0], [], [26], []⟩, ⟨[24], [4], [25], []⟩, ⟨[4], [4], [24], []⟩]
def rate_Best.k1 : List Nat := [0, 1, 0, 0, 8, 0, 32, 0, 224, 504, 1020, 2047, 4095]
mutual
def rate_Best.j13 : Nat → List Int → Int → Int → Int → Int → Option (Int × Int × Int)
  | 0, _, _, _, _, _ => Option.none
  | k + 1, l0, a2, x37, x10j13, x11j13 => rate_Best.l0 k l0 a2 x10j13 x11j13 (wrap64 (x37 + 1))
def rate_Best.l0 : Nat → List Int → Int → Int → Int → Int → Option (Int × Int × Int)
  | 0, _, _, _, _, _ => Option.none
  | k + 1, l0, a2, x10, x11, x37 => (if x37 < (l0.length : Int) then (if 0 ≤ x37 then (if x37 < (l0.length : Int) then ((rate_in.f k l0 (rd l0 x37) (wrap64 ((rd l0 x37) + a2))).bind fun r6 => (if r6 > x11 then rate_Best.j13 k l0 a2 x37 (rd l0 x37) r6 else rate_Best.j13 k l0 a2 x37 x10 x11)) else Option.none) else Option.none) else Option.some (x10, x11, 0))
end
def rate_Best.f (k : Nat) (l0 : List Int) (a1_0 : Int) (a1_1 : Int) (a2 : Int) : Option (Int × Int × Int) := ((rate_CheckTimes.f k l0 a1_0 a1_1).bind fun r1 => (if r1 = 0 then ((rate_isLong.f a2).bind fun r2 => (if r2 = true then ((rate_in.f k l0 a1_0 (wrap64 (a1_0 + a2))).bind fun r3 => rate_Best.l0 k l0 a2 a1_0 r3 0) else Option.some (0, 0, 1))) else Option.some (0, 0, r1)))
theorem rate_Best.loops : ∀ k, (∀ (l0 : List Int) (a2 : Int) (x37 : Int) (x10j13 : Int) (x11j13 : Int), RS (fam Tryz.f62 [13] [] [] (fun r : Int × Int × Int => .tup [.int .i64 r.1, .int .i64 r.2.1, .int .i64 r.2.2]) (fun r => [])) (Func.reg Tryz.f62 13) ⟨ofT [(0, sq eI l0), (2, .int .i64 a2), (10, .int .i64 x10j13), (11, .int .i64 x11j13), (35, sq eI l0), (36, .int .i64 (l0.length : Int)), (37, .int .i64 x37)], ofL []⟩ (rate_Best.j13 k l0 a2 x37 x10j13 x11j13)) ∧ (∀ (l0 : List Int) (a2 : Int) (x10 : Int) (x11 : Int) (x37 : Int), RS (fam Tryz.f62 [13] [] [] (fun r : Int × Int × Int => .tup [.int .i64 r.1, .int .i64 r.2.1, .int .i64 r.2.2]) (fun r => [])) (Func.head Tryz.f62 0) ⟨ofT [(0, sq eI l0), (2, .int .i64 a2), (10, .int .i64 x10), (11, .int .i64 x11), (35, sq eI l0), (36, .int .i64 (l0.length : Int)), (37, .int .i64 x37)], ofL []⟩ (rate_Best.l0 k l0 a2 x10 x11 x37))
  | 0 => ⟨by intro _ _ _ _ _; simp only [rate_Best.j13]; exact RS.none, by intro _ _ _ _ _; simp only [rate_Best.l0]; exact RS.none⟩
  | k + 1 => by
    have ih := rate_Best.loops k
    refine ⟨?_, ?_⟩
    · intro l0 a2 x37 x10j13 x11j13
      simp only [rate_Best.j13]
      refine RS.region ?_
      refine RS.go ?_
      refine RT.goto rfl ?_
      refine RS.weak [(0, sq eI l0), (2, .int .i64 a2), (10, .int .i64 x10j13), (11, .int .i64 x11j13), (35, sq eI l0), (36, .int .i64 (l0.length : Int)), (37, .int .i64 (wrap64 (x37 + 1)))] [] ⟨Le.eq (by first | rfl | simp), Le.eq (by first | rfl | simp), Le.eq (by first | rfl | simp), Le.eq (by first | rfl | simp), Le.eq (by first | rfl | simp), Le.eq (by first | rfl | simp), Le.eq (by first | rfl | simp), trivial⟩ trivial rfl (dom0 rfl) ?_
      exact ih.2 l0 a2 x10j13 x11j13 (wrap64 (x37 + 1)) 
    · intro l0 a2 x10 x11 x37
      simp only [rate_Best.l0]
      refine RS.go ?_
      refine RT.br rfl (fun c8 => ?_) (fun c8 => ?_)
      · refine RT.br rfl (fun c4 => ?_) (fun c4 => RT.none)
        refine RT.br rfl (fun c5 => ?_) (fun c5 => RT.none)
        refine RT.call0 rfl (fun _ h => rate_in.ok k l0 (rd l0 x37) (wrap64 ((rd l0 x37) + a2)) _ h) (LeL.eq rfl) (fun _ => rfl) (fun r6 => ?_)
        refine RS.go ?_
        refine RT.br rfl (fun c7 => ?_) (fun c7 => ?_)
        · refine RT.goto rfl ?_
          refine RS.weak [(0, sq eI l0), (2, .int .i64 a2), (10, .int .i64 (rd l0 x37)), (11, .int .i64 r6), (35, sq eI l0), (36, .int .i64 (l0.length : Int)), (37, .int .i64 x37)] [] ⟨Le.eq (by first | rfl | simp), Le.eq (by first | rfl | simp), Le.eq (by first | rfl | simp), Le.eq (by first | rfl | simp), Le.eq (by first | rfl | simp), Le.eq (by first | rfl | simp), Le.eq (by first | rfl | simp), trivial⟩ trivial rfl (dom0 rfl) ?_
          exact ih.1 l0 a2 x37 (rd l0 x37) r6 
        · refine RT.goto rfl ?_
          refine RS.weak [(0, sq eI l0), (2, .int .i64 a2), (10, .int .i64 x10), (11, .int .i64 x11), (35, sq eI l0), (36, .int .i64 (l0.length : Int)), (37, .int .i64 x37)] [] ⟨Le.eq (by first | rfl | simp), Le.eq (by first | rfl | simp), Le.eq (by first | rfl | simp), Le.eq (by first | rfl | simp), Le.eq (by first | rfl | simp), Le.eq (by first | rfl | simp), Le.eq (by first | rfl | simp), trivial⟩ trivial rfl (dom0 rfl) ?_
          exact ih.1 l0 a2 x37 x10 x11 
      · exact RT.done rfl rfl (Le.tup (LeL.cons (Le.refl _) (LeL.cons (Le.refl _) (LeL.cons (Le.refl _) (LeL.nil))))) trivial rfl (dom0 rfl)
theorem rate_Best.ok (k : Nat) (l0 : List Int) (a1_0 : Int) (a1_1 : Int) (a2 : Int) (r : Int × Int × Int) (h : rate_Best.f k l0 a1_0 a1_1 a2 = some r) : Ct Tryz.prog B 62 [sq eI l0, .agg [.int .i64 a1_0, .int .i64 a1_1], .int .i64 a2] (ofL []) (.tup [.int .i64 r.1, .int .i64 r.2.1, .int .i64 r.2.2]) (ofL []) := by
  refine Ct.of (Y := (fam Tryz.f62 [13] [] [] (fun r : Int × Int × Int => .tup [.int .i64 r.1, .int .i64 r.2.1, .int .i64 r.2.2]) (fun r => []))) Tryz.func62 rfl Tryz.call62 rfl rfl ?_ r h
  unfold rate_Best.f
  refine RS.go ?_
  refine RT.call0 rfl (fun _ h => rate_CheckTimes.ok k l0 a1_0 a1_1 _ h) (LeL.eq rfl) (fun _ => rfl) (fun r1 => ?_)
  refine RS.go ?_
  refine RT.brN rfl (fun c10 => ?_) (fun c10 => ?_)
  · refine RT.call0 rfl (fun _ h => rate_isLong.ok a2 _ h) (LeL.eq rfl) (fun _ => rfl) (fun r2 => ?_)
    refine RS.go ?_
    refine RT.brBN rfl (fun c9 => ?_) (fun c9 => ?_)
    · refine RT.goto rfl ?_
      refine RS.draw rfl ?_
      refine RD.call (CR := []) (CW := (fun r => [])) rfl (fun _ h => rate_in.ok k l0 a1_0 (wrap64 (a1_0 + a2)) _ h) (fun i => i) trivial (fun _ => rfl) ⟨_, _, _, _, rfl, rfl, rfl⟩ (LeL.eq rfl) trivial (fun _ => rfl) (fun r3 => ?_)
      refine RD.fin rate_Best.k0 rate_Best.k1 rfl rfl (by decide +kernel) ?_
      refine RS.go ?_
      refine RT.goto rfl ?_
      refine RS.weak [(0, sq eI l0), (2, .int .i64 a2), (10, .int .i64 a1_0), (11, .int .i64 r3), (35, sq eI l0), (36, .int .i64 (l0.length : Int)), (37, .int .i64 0)] [] ⟨Le.eq (by first | rfl | simp), Le.eq (by first | rfl | simp), Le.eq (by first | rfl | simp), Le.eq (by first | rfl | simp), Le.eq (by first | rfl | simp), Le.eq (by first | rfl | simp), Le.eq (by first | rfl | simp), trivial⟩ trivial rfl (dom0 rfl) ?_
      exact (rate_Best.loops k).2 l0 a2 a1_0 r3 0 
    · exact RT.done rfl rfl (Le.tup (LeL.cons (Le.refl _) (LeL.cons (Le.refl _) (LeL.cons (Le.refl _) (LeL.nil))))) trivial rfl (dom0 rfl)
  · exact RT.done rfl rfl (Le.tup (LeL.cons (Le.refl _) (LeL.cons (Le.refl _) (LeL.cons (Le.refl _) (LeL.nil))))) trivial rfl (dom0 rfl)
/-! ### piletop_h06facts: function 12 -/
def piletop_h06facts.f (k : Nat) : Option (Bool) := ((call_Apart.f k (⟨#[111, 104, 50, 97, 98, 99, 47, 52]⟩ : ByteArray)).bind fun r1 => ((place_Cosine.f k 216000).bind fun r2 => ((key_Units.f k (⟨#[112, 97, 114, 105, 115]⟩ : ByteArray)).bind fun r3 => ((rate_Best.f k [0, 600000, 1200000] 0 3600000 900000).bind fun r4 => (if r1.2.2.2.2.2 = 0 then (if r1.2.1 = (⟨#[111, 104, 50]⟩ : ByteArray) then (if r2.2 = 0 then (if r2.1 = 500000 then (if r3.2 = 0 then (if r3.1 = 43 then (if r4.2.2 = 0 then (if r4.1 = 0 then Option.some (decide (r4.2.1 = 2)) else Option.some false) else Option.some false) else Option.some false) else Option.some false) else Option.some false) else Option.some false) else Option.some false) else Option.some false)))))
theorem piletop_h06facts.ok (k : Nat) (r : Bool) (h : piletop_h06facts.f k  = some r) : Ct Tryz.prog B 12 [] (ofL []) (.bool r) (ofL []) := by
  refine Ct.of (Y := (fam Tryz.f12 [] [] [] (fun r : Bool => .bool r) (fun r => []))) Tryz.func12 rfl Tryz.call12 rfl rfl ?_ r h
  unfold piletop_h06facts.f
  refine RS.go ?_
  refine RT.call0 rfl (fun _ h => call_Apart.ok k (⟨#[111, 104, 50, 97, 98, 99, 47, 52]⟩ : ByteArray) _ h) (LeL.eq rfl) (fun _ => rfl) (fun r1 => ?_)
  refine RS.go ?_
  refine RT.call0 rfl (fun _ h => place_Cosine.ok k 216000 _ h) (LeL.eq rfl) (fun _ => rfl) (fun r2 => ?_)
  refine RS.go ?_
  refine RT.call0 rfl (fun _ h => key_Units.ok k (⟨#[112, 97, 114, 105, 115]⟩ : ByteArray) _ h) (LeL.eq rfl) (fun _ => rfl) (fun r3 => ?_)
  refine RS.go ?_
  refine RT.goto rfl ?_
  refine RS.slot 23 (sq eI [0, 600000, 1200000]) (Le.lit (E := eI) (l := [0, 600000, 1200000]) (cells_of rfl)) ?_
  refine RS.go ?_
  refine RT.call0 rfl (fun _ h => rate_Best.ok k [0, 600000, 1200000] 0 3600000 900000 _ h) (LeL.eq rfl) (fun _ => rfl) (fun r4 => ?_)
  refine RS.go ?_
  refine RT.br rfl (fun c12 => ?_) (fun c12 => ?_)
  · refine RT.brT rfl ?_
    refine RT.brT rfl ?_
    refine RT.brT rfl ?_
    refine RT.br rfl (fun c11 => ?_) (fun c11 => ?_)
    · refine RT.brT rfl ?_
      refine RT.brT rfl ?_
      refine RT.br rfl (fun c10 => ?_) (fun c10 => ?_)
      · refine RT.brT rfl ?_
        refine RT.brT rfl ?_
        refine RT.br rfl (fun c9 => ?_) (fun c9 => ?_)
        · refine RT.brT rfl ?_
          refine RT.brT rfl ?_
          refine RT.br rfl (fun c8 => ?_) (fun c8 => ?_)
          · refine RT.brT rfl ?_
            refine RT.brT rfl ?_
            refine RT.br rfl (fun c7 => ?_) (fun c7 => ?_)
            · refine RT.brT rfl ?_
              refine RT.brT rfl ?_
              refine RT.br rfl (fun c6 => ?_) (fun c6 => ?_)
              · refine RT.brT rfl ?_
                refine RT.brT rfl ?_
                refine RT.br rfl (fun c5 => ?_) (fun c5 => ?_)
                · refine RT.brT rfl ?_
                  refine RT.brT rfl ?_
                  exact RT.done rfl rfl (Le.refl _) trivial rfl (dom0 rfl)
                · refine RT.brF rfl ?_
                  refine RT.brF rfl ?_
                  exact RT.done rfl rfl (Le.refl _) trivial rfl (dom0 rfl)
              · refine RT.brF rfl ?_
                refine RT.brF rfl ?_
                refine RT.brF rfl ?_
                refine RT.brF rfl ?_
                refine RT.brF rfl ?_
                exact RT.done rfl rfl (Le.refl _) trivial rfl (dom0 rfl)
            · refine RT.brF rfl ?_
              refine RT.brF rfl ?_
              refine RT.brF rfl ?_
              refine RT.brF rfl ?_
              refine RT.brF rfl ?_
              refine RT.brF rfl ?_
              refine RT.brF rfl ?_
              refine RT.brF rfl ?_
              exact RT.done rfl rfl (Le.refl _) trivial rfl (dom0 rfl)
          · refine RT.brF rfl ?_
            refine RT.brF rfl ?_
            refine RT.brF rfl ?_
            refine RT.brF rfl ?_
            refine RT.brF rfl ?_
            refine RT.brF rfl ?_
            refine RT.brF rfl ?_
            refine RT.brF rfl ?_
            refine RT.brF rfl ?_
            refine RT.brF rfl ?_
            refine RT.brF rfl ?_
            exact RT.done rfl rfl (Le.refl _) trivial rfl (dom0 rfl)
        · refine RT.brF rfl ?_
          refine RT.brF rfl ?_
          refine RT.brF rfl ?_
          refine RT.brF rfl ?_
          refine RT.brF rfl ?_
          refine RT.brF rfl ?_
          refine RT.brF rfl ?_
          refine RT.brF rfl ?_
          refine RT.brF rfl ?_
          refine RT.brF rfl ?_
          refine RT.brF rfl ?_
          refine RT.brF rfl ?_
          refine RT.brF rfl ?_
          refine RT.brF rfl ?_
          exact RT.done rfl rfl (Le.refl _) trivial rfl (dom0 rfl)
      · refine RT.brF rfl ?_
        refine RT.brF rfl ?_
        refine RT.brF rfl ?_
        refine RT.brF rfl ?_
        refine RT.brF rfl ?_
        refine RT.brF rfl ?_
        refine RT.brF rfl ?_
        refine RT.brF rfl ?_
        refine RT.brF rfl ?_
        refine RT.brF rfl ?_
        refine RT.brF rfl ?_
        refine RT.brF rfl ?_
        refine RT.brF rfl ?_
        refine RT.brF rfl ?_
        refine RT.brF rfl ?_
        refine RT.brF rfl ?_
        refine RT.brF rfl ?_
        exact RT.done rfl rfl (Le.refl _) trivial rfl (dom0 rfl)
    · refine RT.brF rfl ?_
      refine RT.brF rfl ?_
      refine RT.brF rfl ?_
      refine RT.brF rfl ?_
      refine RT.brF rfl ?_
      refine RT.brF rfl ?_
      refine RT.brF rfl ?_
      refine RT.brF rfl ?_
      refine RT.brF rfl ?_
      refine RT.brF rfl ?_
      refine RT.brF rfl ?_
      refine RT.brF rfl ?_
      refine RT.brF rfl ?_
      refine RT.brF rfl ?_
      refine RT.brF rfl ?_
      refine RT.brF rfl ?_
      refine RT.brF rfl ?_
      refine RT.brF rfl ?_
      refine RT.brF rfl ?_
      refine RT.brF rfl ?_
      exact RT.done rfl rfl (Le.refl _) trivial rfl (dom0 rfl)
  · refine RT.brF rfl ?_
    refine RT.brF rfl ?_
    refine RT.brF rfl ?_
    refine RT.brF rfl ?_
    refine RT.brF rfl ?_
    refine RT.brF rfl ?_
    refine RT.brF rfl ?_
    refine RT.brF rfl ?_
    refine RT.brF rfl ?_
    refine RT.brF rfl ?_
    refine RT.brF rfl ?_
    refine RT.brF rfl ?_
    refine RT.brF rfl ?_
    refine RT.brF rfl ?_
    refine RT.brF rfl ?_
    refine RT.brF rfl ?_
    refine RT.brF rfl ?_
    refine RT.brF rfl ?_
    refine RT.brF rfl ?_
    refine RT.brF rfl ?_
    refine RT.brF rfl ?_
    refine RT.brF rfl ?_
    refine RT.brF rfl ?_
    refine RT.brF rfl ?_
    exact RT.done rfl rfl (Le.refl _) trivial rfl (dom0 rfl)
/-! ### key_steps: function 65 -/
def key_steps.k0 : List DK := [⟨[71, 70], [33], [], [33]⟩, ⟨[50, 52], [33], [71], []⟩, ⟨[58, 63, 69], [], [70], []⟩, ⟨[67, 68], [], [69], []⟩, ⟨[10], [], [68], []⟩, ⟨[66], [14], [67], []⟩, ⟨[64, 65], [14], [66], []⟩, ⟨[9], [], [65], []⟩, ⟨[5], [], [64], []⟩, ⟨[62], [], [63], []⟩, ⟨[61], [33], [62], []⟩, ⟨[59, 60], [33], [61], []⟩, ⟨[9], [], [60], []⟩, ⟨[8], [], [59], []⟩, ⟨[57], [], [58], []⟩, ⟨[56], [14], [57], []⟩, ⟨[53, 55], [14], [56], []⟩, ⟨[54], [], [55], []⟩, ⟨[9], [], [54], []⟩, ⟨[5], [], [53], []⟩, ⟨[51], [], [52], []⟩, ⟨[9], [], [51], []⟩, ⟨[8], [], [50], []⟩]
def key_steps.k1 : List Nat := [0, 0, 2, 0, 0, 16, 56, 120, 248, 0, 0, 1536, 3584, 7680, 0, 0, 49152, 114688, 0, 507904, 1048568, 2097151, 4194303]
def key_steps.k2 : List DK := [⟨[45, 48], [], [49], []⟩, ⟨[46, 47], [], [48], []⟩, ⟨[9], [], [47], []⟩, ⟨[1], [], [46], []⟩, ⟨[43, 44], [], [45], []⟩, ⟨[7], [], [44], []⟩, ⟨[0], [], [43], []⟩]
def key_steps.k3 : List Nat := [0, 0, 3, 0, 0, 24, 63]
def key_steps.k4 : List DK := [⟨[71, 70], [33], [], [33]⟩, ⟨[50, 52], [33], [71], []⟩, ⟨[58, 63, 69], [], [70], []⟩, ⟨[67, 68], [], [69], []⟩, ⟨[10], [], [68], []⟩, ⟨[66], [], [67], []⟩, ⟨[64, 65], [], [66], []⟩, ⟨[9], [], [65], []⟩, ⟨[5], [], [64], []⟩, ⟨[62], [], [63], []⟩, ⟨[61], [33], [62], []⟩, ⟨[59, 60], [33], [61], []⟩, ⟨[9], [], [60], []⟩, ⟨[8], [], [59], []⟩, ⟨[57], [], [58], []⟩, ⟨[56], [], [57], []⟩, ⟨[53, 55], [], [56], []⟩, ⟨[54], [], [55], []⟩, ⟨[9], [], [54], []⟩, ⟨[5], [], [53], []⟩, ⟨[51], [], [52], []⟩, ⟨[9], [], [51], []⟩, ⟨[8], [], [50], []⟩]
mutual
def key_steps.j18 : Nat → ByteArray → ByteArray → List Int → Int → Int → List Int → Int → Option (Int)
  | 0, _, _, _, _, _, _, _ => Option.none
  | k + 1, a0, a1, x5b, x27b, x40c, o33c, x10j18 => (if 0 ≤ wrap64 (x40c + 1) then (if wrap64 (x40c + 1) < (x5b.length : Int) then (if 0 ≤ x40c then (if x40c < (o33c.length : Int) then (if 0 ≤ x40c then (if x40c < (x5b.length : Int) then (if 0 ≤ wrap64 (x40c + 1) then (if wrap64 (x40c + 1) < (o33c.length : Int) then key_steps.l2 k a0 a1 x5b x27b (wrap64 (x40c + 1)) (o33c.set ((wrap64 (x40c + 1))).toNat (mn (mn (wrap64 ((rd x5b (wrap64 (x40c + 1))) + 1)) (wrap64 ((rd o33c x40c) + 1))) (wrap64 ((rd x5b x40c) + x10j18)))) else Option.none) else Option.none) else Option.none) else Option.none) else Option.none) else Option.none) else Option.none) else Option.none)
def key_steps.l2 : Nat → ByteArray → ByteArray → List Int → Int → Int → List Int → Option (Int)
  | 0, _, _, _, _, _, _ => Option.none
  | k + 1, a0, a1, x5b, x27b, x40c, o33c => (if x40c < (a1.size : Int) then (if 0 ≤ x27b then (if x27b < (a0.size : Int) then (if 0 ≤ x40c then (if x40c < (a1.size : Int) then (if bt a0 x27b = bt a1 x40c then key_steps.j18 k a0 a1 x5b x27b x40c o33c 0 else key_steps.j18 k a0 a1 x5b x27b x40c o33c 1) else Option.none) else Option.none) else Option.none) else Option.none) else key_steps.l1 k a0 a1 o33c (wrap64 (x27b + 1)))
def key_steps.l1 : Nat → ByteArray → ByteArray → List Int → Int → Option (Int)
  | 0, _, _, _, _ => Option.none
  | k + 1, a0, a1, x5b, x27b => (if x27b < (a0.size : Int) then (if 0 ≤ wrap64 ((a1.size : Int) + 1) then (if wrap64 ((a1.size : Int) + 1) ≤ 1099511627776 then (if 0 < ((List.replicate (wrap64 ((a1.size : Int) + 1)).toNat (0 : Int)).length : Int) then key_steps.l2 k a0 a1 x5b x27b 0 ((List.replicate (wrap64 ((a1.size : Int) + 1)).toNat (0 : Int)).set 0 (wrap64 (x27b + 1))) else Option.none) else Option.none) else Option.none) else (if 0 ≤ (a1.size : Int) then (if (a1.size : Int) < (x5b.length : Int) then Option.some (rd x5b (a1.size : Int)) else Option.none) else Option.none))
def key_steps.l0 : Nat → ByteArray → ByteArray → Int → List Int → Option (Int)
  | 0, _, _, _, _ => Option.none
  | k + 1, a0, a1, x17, o14 => (if x17 < ((List.replicate (wrap64 ((a1.size : Int) + 1)).toNat (0 : Int)).length : Int) then (if 0 ≤ x17 then (if x17 < (o14.length : Int) then key_steps.l0 k a0 a1 (wrap64 (x17 + 1)) (o14.set (x17).toNat x17) else Option.none) else Option.none) else key_steps.l1 k a0 a1 o14 0)
end
def key_steps.f (k : Nat) (a0 : ByteArray) (a1 : ByteArray) : Option (Int) := (if 0 ≤ wrap64 ((a1.size : Int) + 1) then (if wrap64 ((a1.size : Int) + 1) ≤ 1099511627776 then key_steps.l0 k a0 a1 0 (List.replicate (wrap64 ((a1.size : Int) + 1)).toNat (0 : Int)) else Option.none) else Option.none)
theorem key_steps.loops : ∀ k, (∀ (a0 : ByteArray) (a1 : ByteArray) (x5b : List Int) (x27b : Int) (x40c : Int) (o33c : List Int) (x10j18 : Int), RS (fam Tryz.f65 [18] [] [] (fun r : Int => .int .i64 r) (fun r => [])) (Func.reg Tryz.f65 18) ⟨ofT [(0, .str a0), (1, .str a1), (5, sq eI x5b), (7, .int .i64 x27b), (8, .osl 33 eI.w 0 o33c.length o33c.length), (9, .int .i64 x40c), (10, .int .i64 x10j18), (26, .int .i64 (a0.size : Int)), (27, .int .i64 x27b), (39, .int .i64 (a1.size : Int)), (40, .int .i64 x40c)], ofL [(33, bufE eI o33c)]⟩ (key_steps.j18 k a0 a1 x5b x27b x40c o33c x10j18)) ∧ (∀ (a0 : ByteArray) (a1 : ByteArray) (x5b : List Int) (x27b : Int) (x40c : Int) (o33c : List Int), RS (fam Tryz.f65 [18] [] [] (fun r : Int => .int .i64 r) (fun r => [])) (Func.head Tryz.f65 2) ⟨ofT [(0, .str a0), (1, .str a1), (5, sq eI x5b), (7, .int .i64 x27b), (8, .osl 33 eI.w 0 o33c.length o33c.length), (26, .int .i64 (a0.size : Int)), (27, .int .i64 x27b), (39, .int .i64 (a1.size : Int)), (40, .int .i64 x40c)], ofL [(33, bufE eI o33c)]⟩ (key_steps.l2 k a0 a1 x5b x27b x40c o33c)) ∧ (∀ (a0 : ByteArray) (a1 : ByteArray) (x5b : List Int) (x27b : Int), RS (fam Tryz.f65 [18] [] [] (fun r : Int => .int .i64 r) (fun r => [])) (Func.head Tryz.f65 1) ⟨ofT [(0, .str a0), (1, .str a1), (5, sq eI x5b), (26, .int .i64 (a0.size : Int)), (27, .int .i64 x27b)], ofL []⟩ (key_steps.l1 k a0 a1 x5b x27b)) ∧ (∀ (a0 : ByteArray) (a1 : ByteArray) (x17 : Int) (o14 : List Int), RS (fam Tryz.f65 [18] [] [] (fun r : Int => .int .i64 r) (fun r => [])) (Func.head Tryz.f65 0) ⟨ofT [(0, .str a0), (1, .str a1), (5, .osl 14 eI.w 0 o14.length o14.length), (16, .int .i64 ((List.replicate (wrap64 ((a1.size : Int) + 1)).toNat (0 : Int)).length : Int)), (17, .int .i64 x17)], ofL [(14, bufE eI o14)]⟩ (key_steps.l0 k a0 a1 x17 o14))
  | 0 => ⟨by intro _ _ _ _ _ _ _; simp only [key_steps.j18]; exact RS.none, by intro _ _ _ _ _ _; simp only [key_steps.l2]; exact RS.none, by intro _ _ _ _; simp only [key_steps.l1]; exact RS.none, by intro _ _ _ _; simp only [key_steps.l0]; exact RS.none⟩
  | k + 1 => by
    have ih := key_steps.loops k
    refine ⟨?_, ?_, ?_, ?_⟩
    · intro a0 a1 x5b x27b x40c o33c x10j18
      simp only [key_steps.j18]
      refine RS.draw rfl ?_
      refine RD.br rfl (fun c12 => ?_) (fun c12 => RD.none)
      refine RD.br rfl (fun c13 => ?_) (fun c13 => RD.none)
      refine RD.req rfl (by first | exact Nat.zero_add _ | rfl | simp) ?_
      refine RD.br rfl (fun c14 => ?_) (fun c14 => RD.none)
      refine RD.br rfl (fun c15 => ?_) (fun c15 => RD.none)
      refine RD.req rfl ⟨by first | rfl | simp, elt_lt c14 (by first | exact c15 | simpa using c15)⟩ ?_
      refine RD.br rfl (fun c16 => ?_) (fun c16 => RD.none)
      refine RD.br rfl (fun c17 => ?_) (fun c17 => RD.none)
      refine RD.req rfl (by first | exact Nat.zero_add _ | rfl | simp) ?_
      refine RD.br rfl (fun c18 => ?_) (fun c18 => RD.none)
      refine RD.br rfl (fun c19 => ?_) (fun c19 => RD.none)
      refine RD.req rfl ⟨by first | rfl | simp, elt_lt c18 (by first | exact c19 | simpa using c19)⟩ ?_
      refine RD.fin key_steps.k4 key_steps.k1 rfl rfl (by decide +kernel) ?_
      refine RS.obj 33 (bufE eI (o33c.set ((wrap64 (x40c + 1))).toNat (mn (mn (wrap64 ((rd x5b (wrap64 (x40c + 1))) + 1)) (wrap64 ((rd o33c x40c) + 1))) (wrap64 ((rd x5b x40c) + x10j18))))) ⟨_, rfl, LeO.setE c18 (by first | exact c19 | simpa using c19) (all1 rfl)⟩ ?_
      refine RS.go ?_
      refine RT.goto rfl ?_
      refine RS.weak [(0, .str a0), (1, .str a1), (5, sq eI x5b), (7, .int .i64 x27b), (8, .osl 33 eI.w 0 (o33c.set ((wrap64 (x40c + 1))).toNat (mn (mn (wrap64 ((rd x5b (wrap64 (x40c + 1))) + 1)) (wrap64 ((rd o33c x40c) + 1))) (wrap64 ((rd x5b x40c) + x10j18)))).length (o33c.set ((wrap64 (x40c + 1))).toNat (mn (mn (wrap64 ((rd x5b (wrap64 (x40c + 1))) + 1)) (wrap64 ((rd o33c x40c) + 1))) (wrap64 ((rd x5b x40c) + x10j18)))).length), (26, .int .i64 (a0.size : Int)), (27, .int .i64 x27b), (39, .int .i64 (a1.size : Int)), (40, .int .i64 (wrap64 (x40c + 1)))] [(33, bufE eI (o33c.set ((wrap64 (x40c + 1))).toNat (mn (mn (wrap64 ((rd x5b (wrap64 (x40c + 1))) + 1)) (wrap64 ((rd o33c x40c) + 1))) (wrap64 ((rd x5b x40c) + x10j18)))))] ⟨Le.eq (by first | rfl | simp), Le.eq (by first | rfl | simp), Le.eq (by first | rfl | simp), Le.eq (by first | rfl | simp), (by first | exact Le.oslN rfl (by first | rfl | simp) | exact Le.refl _ | exact Le.eq (by first | rfl | simp)), Le.eq (by first | rfl | simp), Le.eq (by first | rfl | simp), Le.eq (by first | rfl | simp), Le.eq (by first | rfl | simp), trivial⟩ ⟨⟨_, rfl, LeO.refl _⟩, trivial⟩ rfl (dom0 rfl) ?_
      exact ih.2.1 a0 a1 x5b x27b (wrap64 (x40c + 1)) (o33c.set ((wrap64 (x40c + 1))).toNat (mn (mn (wrap64 ((rd x5b (wrap64 (x40c + 1))) + 1)) (wrap64 ((rd o33c x40c) + 1))) (wrap64 ((rd x5b x40c) + x10j18)))) 
    · intro a0 a1 x5b x27b x40c o33c
      simp only [key_steps.l2]
      refine RS.go ?_
      refine RT.br rfl (fun c21 => ?_) (fun c21 => ?_)
      · refine RT.goto rfl ?_
        refine RS.draw rfl ?_
        refine RD.br rfl (fun c8 => ?_) (fun c8 => RD.none)
        refine RD.br rfl (fun c9 => ?_) (fun c9 => RD.none)
        refine RD.br rfl (fun c10 => ?_) (fun c10 => RD.none)
        refine RD.br rfl (fun c11 => ?_) (fun c11 => RD.none)
        refine RD.fin key_steps.k2 key_steps.k3 rfl rfl (by decide +kernel) ?_
        refine RS.go ?_
        refine RT.br rfl (fun c20 => ?_) (fun c20 => ?_)
        · refine RT.goto rfl ?_
          refine RS.weak [(0, .str a0), (1, .str a1), (5, sq eI x5b), (7, .int .i64 x27b), (8, .osl 33 eI.w 0 o33c.length o33c.length), (9, .int .i64 x40c), (10, .int .i64 0), (26, .int .i64 (a0.size : Int)), (27, .int .i64 x27b), (39, .int .i64 (a1.size : Int)), (40, .int .i64 x40c)] [(33, bufE eI o33c)] ⟨Le.eq (by first | rfl | simp), Le.eq (by first | rfl | simp), Le.eq (by first | rfl | simp), Le.eq (by first | rfl | simp), (by first | exact Le.oslN rfl (by first | rfl | simp) | exact Le.refl _ | exact Le.eq (by first | rfl | simp)), Le.eq (by first | rfl | simp), Le.eq (by first | rfl | simp), Le.eq (by first | rfl | simp), Le.eq (by first | rfl | simp), Le.eq (by first | rfl | simp), Le.eq (by first | rfl | simp), trivial⟩ ⟨⟨_, rfl, LeO.refl _⟩, trivial⟩ rfl (dom0 rfl) ?_
          exact ih.1 a0 a1 x5b x27b x40c o33c 0 
        · refine RT.goto rfl ?_
          refine RS.weak [(0, .str a0), (1, .str a1), (5, sq eI x5b), (7, .int .i64 x27b), (8, .osl 33 eI.w 0 o33c.length o33c.length), (9, .int .i64 x40c), (10, .int .i64 1), (26, .int .i64 (a0.size : Int)), (27, .int .i64 x27b), (39, .int .i64 (a1.size : Int)), (40, .int .i64 x40c)] [(33, bufE eI o33c)] ⟨Le.eq (by first | rfl | simp), Le.eq (by first | rfl | simp), Le.eq (by first | rfl | simp), Le.eq (by first | rfl | simp), (by first | exact Le.oslN rfl (by first | rfl | simp) | exact Le.refl _ | exact Le.eq (by first | rfl | simp)), Le.eq (by first | rfl | simp), Le.eq (by first | rfl | simp), Le.eq (by first | rfl | simp), Le.eq (by first | rfl | simp), Le.eq (by first | rfl | simp), Le.eq (by first | rfl | simp), trivial⟩ ⟨⟨_, rfl, LeO.refl _⟩, trivial⟩ rfl (dom0 rfl) ?_
          exact ih.1 a0 a1 x5b x27b x40c o33c 1 
      · refine RT.goto rfl ?_
        refine RS.freeze 33 _ _ _ [(0, .str a0), (1, .str a1), (5, sq eI o33c), (26, .int .i64 (a0.size : Int)), (27, .int .i64 (wrap64 (x27b + 1)))] [] rfl ⟨.inl (Le.refl _), .inl (Le.refl _), .inr ⟨_, rfl, by first | exact Nat.le_refl _ | simp, rfl⟩, .inl (Le.refl _), .inl (Le.refl _), trivial⟩ trivial rfl (dom0 rfl) ?_
        refine RS.weak [(0, .str a0), (1, .str a1), (5, sq eI o33c), (26, .int .i64 (a0.size : Int)), (27, .int .i64 (wrap64 (x27b + 1)))] [] ⟨Le.eq (by first | rfl | simp), Le.eq (by first | rfl | simp), Le.eq (by first | rfl | simp), Le.eq (by first | rfl | simp), Le.eq (by first | rfl | simp), trivial⟩ trivial rfl (dom0 rfl) ?_
        exact ih.2.2.1 a0 a1 o33c (wrap64 (x27b + 1)) 
    · intro a0 a1 x5b x27b
      simp only [key_steps.l1]
      refine RS.go ?_
      refine RT.br rfl (fun c24 => ?_) (fun c24 => ?_)
      · refine RT.br rfl (fun c5 => ?_) (fun c5 => RT.none)
        refine RT.sure rfl (by simp) ?_
        refine RT.br rfl (fun c6 => ?_) (fun c6 => RT.none)
        refine RT.goto rfl ?_
        refine RS.obj 33 (bufE eI (List.replicate (wrap64 ((a1.size : Int) + 1)).toNat (0 : Int))) ⟨_, rfl, LeO.rep0 (all1 rfl)⟩ ?_
        refine RS.slot 33 (.osl 33 eI.w 0 (List.replicate (wrap64 ((a1.size : Int) + 1)).toNat (0 : Int)).length (List.replicate (wrap64 ((a1.size : Int) + 1)).toNat (0 : Int)).length) (Le.oslN rfl (by first | (simp; done) | (simp; rfl))) ?_
        refine RS.go ?_
        refine RT.req rfl (by first | exact Nat.zero_add _ | rfl | simp) ?_
        refine RT.brT rfl ?_
        refine RT.br rfl (fun c7 => ?_) (fun c7 => RT.none)
        refine RT.req rfl ⟨by first | rfl | simp, elt_lt (by decide) (by first | exact c7 | simpa using c7)⟩ ?_
        refine RT.goto rfl ?_
        refine RS.obj 33 (bufE eI ((List.replicate (wrap64 ((a1.size : Int) + 1)).toNat (0 : Int)).set 0 (wrap64 (x27b + 1)))) ⟨_, rfl, LeO.setE (by decide) (by first | exact c7 | simpa using c7) (all1 rfl)⟩ ?_
        refine RS.go ?_
        refine RT.goto rfl ?_
        refine RS.weak [(0, .str a0), (1, .str a1), (5, sq eI x5b), (7, .int .i64 x27b), (8, .osl 33 eI.w 0 ((List.replicate (wrap64 ((a1.size : Int) + 1)).toNat (0 : Int)).set 0 (wrap64 (x27b + 1))).length ((List.replicate (wrap64 ((a1.size : Int) + 1)).toNat (0 : Int)).set 0 (wrap64 (x27b + 1))).length), (26, .int .i64 (a0.size : Int)), (27, .int .i64 x27b), (39, .int .i64 (a1.size : Int)), (40, .int .i64 0)] [(33, bufE eI ((List.replicate (wrap64 ((a1.size : Int) + 1)).toNat (0 : Int)).set 0 (wrap64 (x27b + 1))))] ⟨Le.eq (by first | rfl | simp), Le.eq (by first | rfl | simp), Le.eq (by first | rfl | simp), Le.eq (by first | rfl | simp), (by first | exact Le.oslN rfl (by first | rfl | simp) | exact Le.refl _ | exact Le.eq (by first | rfl | simp)), Le.eq (by first | rfl | simp), Le.eq (by first | rfl | simp), Le.eq (by first | rfl | simp), Le.eq (by first | rfl | simp), trivial⟩ ⟨⟨_, rfl, LeO.refl _⟩, trivial⟩ rfl (dom0 rfl) ?_
        exact ih.2.1 a0 a1 x5b x27b 0 ((List.replicate (wrap64 ((a1.size : Int) + 1)).toNat (0 : Int)).set 0 (wrap64 (x27b + 1))) 
      · refine RT.br rfl (fun c22 => ?_) (fun c22 => RT.none)
        refine RT.br rfl (fun c23 => ?_) (fun c23 => RT.none)
        exact RT.done rfl rfl (Le.refl _) trivial rfl (dom0 rfl)
    · intro a0 a1 x17 o14
      simp only [key_steps.l0]
      refine RS.go ?_
      refine RT.br rfl (fun c25 => ?_) (fun c25 => ?_)
      · refine RT.req rfl (by first | exact Nat.zero_add _ | rfl | simp) ?_
        refine RT.br rfl (fun c3 => ?_) (fun c3 => RT.none)
        refine RT.br rfl (fun c4 => ?_) (fun c4 => RT.none)
        refine RT.req rfl ⟨by first | rfl | simp, elt_lt c3 (by first | exact c4 | simpa using c4)⟩ ?_
        refine RT.goto rfl ?_
        refine RS.obj 14 (bufE eI (o14.set (x17).toNat x17)) ⟨_, rfl, LeO.setE c3 (by first | exact c4 | simpa using c4) (all1 rfl)⟩ ?_
        refine RS.go ?_
        refine RT.goto rfl ?_
        refine RS.weak [(0, .str a0), (1, .str a1), (5, .osl 14 eI.w 0 (o14.set (x17).toNat x17).length (o14.set (x17).toNat x17).length), (16, .int .i64 ((List.replicate (wrap64 ((a1.size : Int) + 1)).toNat (0 : Int)).length : Int)), (17, .int .i64 (wrap64 (x17 + 1)))] [(14, bufE eI (o14.set (x17).toNat x17))] ⟨Le.eq (by first | rfl | simp), Le.eq (by first | rfl | simp), (by first | exact Le.oslN rfl (by first | rfl | simp) | exact Le.refl _ | exact Le.eq (by first | rfl | simp)), Le.eq (by first | rfl | simp), Le.eq (by first | rfl | simp), trivial⟩ ⟨⟨_, rfl, LeO.refl _⟩, trivial⟩ rfl (dom0 rfl) ?_
        exact ih.2.2.2 a0 a1 (wrap64 (x17 + 1)) (o14.set (x17).toNat x17) 
      · refine RT.goto rfl ?_
        refine RS.freeze 14 _ _ _ [(0, .str a0), (1, .str a1), (5, sq eI o14), (26, .int .i64 (a0.size : Int)), (27, .int .i64 0)] [] rfl ⟨.inl (Le.refl _), .inl (Le.refl _), .inr ⟨_, rfl, by first | exact Nat.le_refl _ | simp, rfl⟩, .inl (Le.refl _), .inl (Le.refl _), trivial⟩ trivial rfl (dom0 rfl) ?_
        refine RS.weak [(0, .str a0), (1, .str a1), (5, sq eI o14), (26, .int .i64 (a0.size : Int)), (27, .int .i64 0)] [] ⟨Le.eq (by first | rfl | simp), Le.eq (by first | rfl | simp), Le.eq (by first | rfl | simp), Le.eq (by first | rfl | simp), Le.eq (by first | rfl | simp), trivial⟩ trivial rfl (dom0 rfl) ?_
        exact ih.2.2.1 a0 a1 o14 0 
theorem key_steps.ok (k : Nat) (a0 : ByteArray) (a1 : ByteArray) (r : Int) (h : key_steps.f k a0 a1 = some r) : Ct Tryz.prog B 65 [.str a0, .str a1] (ofL []) (.int .i64 r) (ofL []) := by
  refine Ct.of (Y := (fam Tryz.f65 [18] [] [] (fun r : Int => .int .i64 r) (fun r => []))) Tryz.func65 rfl Tryz.call65 rfl rfl ?_ r h
  unfold key_steps.f
  refine RS.go ?_
  refine RT.br rfl (fun c1 => ?_) (fun c1 => RT.none)
  refine RT.sure rfl (by simp) ?_
  refine RT.br rfl (fun c2 => ?_) (fun c2 => RT.none)
  refine RT.goto rfl ?_
  refine RS.obj 14 (bufE eI (List.replicate (wrap64 ((a1.size : Int) + 1)).toNat (0 : Int))) ⟨_, rfl, LeO.rep0 (all1 rfl)⟩ ?_
  refine RS.slot 14 (.osl 14 eI.w 0 (List.replicate (wrap64 ((a1.size : Int) + 1)).toNat (0 : Int)).length (List.replicate (wrap64 ((a1.size : Int) + 1)).toNat (0 : Int)).length) (Le.oslN rfl (by first | (simp; done) | (simp; rfl))) ?_
  refine RS.go ?_
  refine RT.req rfl (by first | exact Nat.zero_add _ | rfl | simp [szf, szOf]) ?_
  refine RT.goto rfl ?_
  refine RS.weak [(0, .str a0), (1, .str a1), (5, .osl 14 eI.w 0 (List.replicate (wrap64 ((a1.size : Int) + 1)).toNat (0 : Int)).length (List.replicate (wrap64 ((a1.size : Int) + 1)).toNat (0 : Int)).length), (16, .int .i64 ((List.replicate (wrap64 ((a1.size : Int) + 1)).toNat (0 : Int)).length : Int)), (17, .int .i64 0)] [(14, bufE eI (List.replicate (wrap64 ((a1.size : Int) + 1)).toNat (0 : Int)))] ⟨Le.eq (by first | rfl | simp), Le.eq (by first | rfl | simp), (by first | exact Le.oslN rfl (by first | rfl | simp) | exact Le.refl _ | exact Le.eq (by first | rfl | simp)), Le.eq (by first | rfl | simp), Le.eq (by first | rfl | simp), trivial⟩ ⟨⟨_, rfl, LeO.refl _⟩, trivial⟩ rfl (dom0 rfl) ?_
  exact (key_steps.loops k).2.2.2 a0 a1 0 (List.replicate (wrap64 ((a1.size : Int) + 1)).toNat (0 : Int)) 
/-! ### key_Mistaken: function 13 -/
def key_Mistaken.k0 : List DK := [⟨[54], [], [6], []⟩, ⟨[41, 53], [54, 6], [54], [6]⟩, ⟨[52], [53], [53], []⟩, ⟨[47, 51], [], [52], []⟩, ⟨[48, 50], [], [51], []⟩, ⟨[49], [], [50], []⟩, ⟨[7], [], [49], []⟩, ⟨[0], [], [48], []⟩, ⟨[44, 46], [], [47], []⟩, ⟨[45], [9], [46], []⟩, ⟨[9], [9], [45], []⟩, ⟨[42, 43], [], [44], []⟩, ⟨[7], [], [43], []⟩, ⟨[0], [], [42], []⟩, ⟨[6], [], [41], []⟩]
def key_Mistaken.k1 : List Nat := [0, 0, 0, 6, 0, 16, 62, 0, 0, 256, 896, 2046, 4094, 8191, 16383]
def key_Mistaken.k2 : List DK := [⟨[39], [], [40], []⟩, ⟨[36, 38], [], [39], []⟩, ⟨[37], [9], [38], []⟩, ⟨[9], [9], [37], []⟩, ⟨[32, 35], [20], [36], []⟩, ⟨[33, 34], [], [35], []⟩, ⟨[7], [], [34], []⟩, ⟨[0], [], [33], []⟩, ⟨[5], [], [32], []⟩]
def key_Mistaken.k3 : List Nat := [0, 0, 0, 6, 15, 0, 32, 127, 255]
mutual
def key_Mistaken.j18 : Nat → ByteArray → Int → List (Int × ByteArray) → List (ByteArray × ByteArray) → Int → Int → List ByteArray → Option ((List ByteArray) × Int)
  | 0, _, _, _, _, _, _, _ => Option.none
  | k + 1, a0, x23, o20, x26b, x27b, x28b, o6j18 => key_Mistaken.l1 k a0 x23 o20 x26b x27b (wrap64 (x28b + 1)) o6j18
def key_Mistaken.l1 : Nat → ByteArray → Int → List (Int × ByteArray) → List (ByteArray × ByteArray) → Int → Int → List ByteArray → Option ((List ByteArray) × Int)
  | 0, _, _, _, _, _, _, _ => Option.none
  | k + 1, a0, x23, o20, x26b, x27b, x28b, o6b => (if x28b < x27b then (if 0 ≤ x28b then (if x28b < (x26b.length : Int) then (if 0 ≤ x23 then (if x23 < (a0.size : Int) then ((key_steps.f k (mget (ByteArray.empty : ByteArray) o20 (bt a0 x23)) ((rdE e_SS x26b x28b).2)).bind fun r9 => (if r9 = 1 then (if 0 ≤ x23 then (if x23 ≤ (a0.size : Int) then (if (a0.extract 0 (x23).toNat).size + ((rdE e_SS x26b x28b).1).size ≤ 9223372036854775807 then (if 0 ≤ wrap64 (x23 + 1) then (if wrap64 (x23 + 1) ≤ (a0.size : Int) then (if ((a0.extract 0 (x23).toNat) ++ ((rdE e_SS x26b x28b).1)).size + (a0.extract (wrap64 (x23 + 1)).toNat ((a0.size : Int)).toNat).size ≤ 9223372036854775807 then (if o6b.length + 1 ≤ 549755813888 then key_Mistaken.j18 k a0 x23 o20 x26b x27b x28b (o6b ++ [((a0.extract 0 (x23).toNat) ++ ((rdE e_SS x26b x28b).1)) ++ (a0.extract (wrap64 (x23 + 1)).toNat ((a0.size : Int)).toNat)]) else Option.none) else Option.none) else Option.none) else Option.none) else Option.none) else Option.none) else Option.none) else key_Mistaken.j18 k a0 x23 o20 x26b x27b x28b o6b)) else Option.none) else Option.none) else Option.none) else Option.none) else key_Mistaken.l0 k a0 (wrap64 (x23 + 1)) o6b o20)
def key_Mistaken.l0 : Nat → ByteArray → Int → List ByteArray → List (Int × ByteArray) → Option ((List ByteArray) × Int)
  | 0, _, _, _, _ => Option.none
  | k + 1, a0, x23, o6, o20 => (if x23 < (a0.size : Int) then ((key_Codes.f k ).bind fun r4 => key_Mistaken.l1 k a0 x23 o20 r4 (r4.length : Int) 0 o6) else Option.some (o6, 0))
end
def key_Mistaken.f (k : Nat) (a0 : ByteArray) : Option ((List ByteArray) × Int) := ((key_CheckSaid.f k a0).bind fun r1 => (if r1 = 0 then (if (a0.size : Int) > 10 then Option.some ([], 2) else ((strings_Contains.f a0 (⟨#[32]⟩ : ByteArray)).bind fun r2 => (if r2 = true then Option.some ([], 3) else ((key_byBytes.f k ).bind fun r3 => key_Mistaken.l0 k a0 0 [] r3)))) else Option.some ([], r1)))
theorem key_Mistaken.loops : ∀ k, (∀ (a0 : ByteArray) (x23 : Int) (o20 : List (Int × ByteArray)) (x26b : List (ByteArray × ByteArray)) (x27b : Int) (x28b : Int) (o6j18 : List ByteArray), RS (fam Tryz.f13 [18] [] [] (fun r : (List ByteArray) × Int => .tup [sq eS r.1, .int .i64 r.2]) (fun r => [])) (Func.reg Tryz.f13 18) ⟨ofT [(0, .str a0), (5, .omap 20), (6, .osl 6 eS.w 0 o6j18.length o6j18.length), (7, .int .i64 x23), (22, .int .i64 (a0.size : Int)), (23, .int .i64 x23), (26, sq e_SS x26b), (27, .int .i64 x27b), (28, .int .i64 x28b)], ofL [(6, bufE eS o6j18), (20, mapE (KL.ints .u8) (ByteArray.empty : ByteArray) AV.str o20)]⟩ (key_Mistaken.j18 k a0 x23 o20 x26b x27b x28b o6j18)) ∧ (∀ (a0 : ByteArray) (x23 : Int) (o20 : List (Int × ByteArray)) (x26b : List (ByteArray × ByteArray)) (x27b : Int) (x28b : Int) (o6b : List ByteArray), RS (fam Tryz.f13 [18] [] [] (fun r : (List ByteArray) × Int => .tup [sq eS r.1, .int .i64 r.2]) (fun r => [])) (Func.head Tryz.f13 1) ⟨ofT [(0, .str a0), (5, .omap 20), (6, .osl 6 eS.w 0 o6b.length o6b.length), (7, .int .i64 x23), (22, .int .i64 (a0.size : Int)), (23, .int .i64 x23), (26, sq e_SS x26b), (27, .int .i64 x27b), (28, .int .i64 x28b)], ofL [(6, bufE eS o6b), (20, mapE (KL.ints .u8) (ByteArray.empty : ByteArray) AV.str o20)]⟩ (key_Mistaken.l1 k a0 x23 o20 x26b x27b x28b o6b)) ∧ (∀ (a0 : ByteArray) (x23 : Int) (o6 : List ByteArray) (o20 : List (Int × ByteArray)), RS (fam Tryz.f13 [18] [] [] (fun r : (List ByteArray) × Int => .tup [sq eS r.1, .int .i64 r.2]) (fun r => [])) (Func.head Tryz.f13 0) ⟨ofT [(0, .str a0), (5, .omap 20), (6, .osl 6 eS.w 0 o6.length o6.length), (22, .int .i64 (a0.size : Int)), (23, .int .i64 x23)], ofL [(6, bufE eS o6), (20, mapE (KL.ints .u8) (ByteArray.empty : ByteArray) AV.str o20)]⟩ (key_Mistaken.l0 k a0 x23 o6 o20))
  | 0 => ⟨by intro _ _ _ _ _ _ _; simp only [key_Mistaken.j18]; exact RS.none, by intro _ _ _ _ _ _ _; simp only [key_Mistaken.l1]; exact RS.none, by intro _ _ _ _; simp only [key_Mistaken.l0]; exact RS.none⟩
  | k + 1 => by
    have ih := key_Mistaken.loops k
    refine ⟨?_, ?_, ?_⟩
    · intro a0 x23 o20 x26b x27b x28b o6j18
      simp only [key_Mistaken.j18]
      refine RS.region ?_
      refine RS.go ?_
      refine RT.goto rfl ?_
      refine RS.weak [(0, .str a0), (5, .omap 20), (6, .osl 6 eS.w 0 o6j18.length o6j18.length), (7, .int .i64 x23), (22, .int .i64 (a0.size : Int)), (23, .int .i64 x23), (26, sq e_SS x26b), (27, .int .i64 x27b), (28, .int .i64 (wrap64 (x28b + 1)))] [(6, bufE eS o6j18), (20, mapE (KL.ints .u8) (ByteArray.empty : ByteArray) AV.str o20)] ⟨Le.eq (by first | rfl | simp), Le.eq (by first | rfl | simp), (by first | exact Le.oslN rfl (by first | rfl | simp) | exact Le.refl _ | exact Le.eq (by first | rfl | simp)), Le.eq (by first | rfl | simp), Le.eq (by first | rfl | simp), Le.eq (by first | rfl | simp), Le.eq (by first | rfl | simp), Le.eq (by first | rfl | simp), Le.eq (by first | rfl | simp), trivial⟩ ⟨⟨_, rfl, LeO.refl _⟩, ⟨_, rfl, LeO.refl _⟩, trivial⟩ rfl (dom0 rfl) ?_
      exact ih.2.1 a0 x23 o20 x26b x27b (wrap64 (x28b + 1)) o6j18 
    · intro a0 x23 o20 x26b x27b x28b o6b
      simp only [key_Mistaken.l1]
      refine RS.go ?_
      refine RT.br rfl (fun c18 => ?_) (fun c18 => ?_)
      · refine RT.br rfl (fun c5 => ?_) (fun c5 => RT.none)
        refine RT.br rfl (fun c6 => ?_) (fun c6 => RT.none)
        refine RT.goto rfl ?_
        refine RS.draw rfl ?_
        refine RD.br rfl (fun c7 => ?_) (fun c7 => RD.none)
        refine RD.br rfl (fun c8 => ?_) (fun c8 => RD.none)
        refine RD.req rfl (congrArg AV.str (map_end (l := o20) (d := (ByteArray.empty : ByteArray)))) ?_
        refine RD.call (CR := []) (CW := (fun r => [])) rfl (fun _ h => key_steps.ok k (mget (ByteArray.empty : ByteArray) o20 (bt a0 x23)) ((rdE e_SS x26b x28b).2) _ h) (fun i => i) trivial (fun _ => rfl) ⟨_, _, _, _, rfl, rfl, rfl⟩ (LeL.eq rfl) trivial (fun _ => rfl) (fun r9 => ?_)
        refine RD.fin key_Mistaken.k2 key_Mistaken.k3 rfl rfl (by decide +kernel) ?_
        refine RS.go ?_
        refine RT.br rfl (fun c17 => ?_) (fun c17 => ?_)
        · refine RT.goto rfl ?_
          refine RS.draw rfl ?_
          refine RD.br rfl (fun c10 => ?_) (fun c10 => RD.none)
          refine RD.br rfl (fun c11 => ?_) (fun c11 => RD.none)
          refine RD.br rfl (fun c12 => ?_) (fun c12 => RD.none)
          refine RD.br rfl (fun c13 => ?_) (fun c13 => RD.none)
          refine RD.br rfl (fun c14 => ?_) (fun c14 => RD.none)
          refine RD.br rfl (fun c15 => ?_) (fun c15 => RD.none)
          refine RD.req rfl ⟨by first | rfl | simp, by first | exact Nat.le_refl _ | simp⟩ ?_
          refine RD.not rfl (by simp <;> omega) ?_
          refine RD.br rfl (fun c16 => ?_) (fun _ => RD.none)
          refine RD.fin key_Mistaken.k0 key_Mistaken.k1 rfl rfl (by decide +kernel) ?_
          refine RS.obj 6 (bufE eS (o6b ++ [((a0.extract 0 (x23).toNat) ++ ((rdE e_SS x26b x28b).1)) ++ (a0.extract (wrap64 (x23 + 1)).toNat ((a0.size : Int)).toNat)])) ⟨_, rfl, LeO.app (l := o6b) (m := [((a0.extract 0 (x23).toNat) ++ ((rdE e_SS x26b x28b).1)) ++ (a0.extract (wrap64 (x23 + 1)).toNat ((a0.size : Int)).toNat)]) (cells_of rfl)⟩ ?_
          refine RS.slot 6 (.osl 6 eS.w 0 (o6b ++ [((a0.extract 0 (x23).toNat) ++ ((rdE e_SS x26b x28b).1)) ++ (a0.extract (wrap64 (x23 + 1)).toNat ((a0.size : Int)).toNat)]).length (o6b ++ [((a0.extract 0 (x23).toNat) ++ ((rdE e_SS x26b x28b).1)) ++ (a0.extract (wrap64 (x23 + 1)).toNat ((a0.size : Int)).toNat)]).length) (Le.oslN rfl (by simp)) ?_
          refine RS.slot 54 (.osl 6 eS.w 0 (o6b ++ [((a0.extract 0 (x23).toNat) ++ ((rdE e_SS x26b x28b).1)) ++ (a0.extract (wrap64 (x23 + 1)).toNat ((a0.size : Int)).toNat)]).length (o6b ++ [((a0.extract 0 (x23).toNat) ++ ((rdE e_SS x26b x28b).1)) ++ (a0.extract (wrap64 (x23 + 1)).toNat ((a0.size : Int)).toNat)]).length) (Le.oslN rfl (by simp)) ?_
          refine RS.go ?_
          refine RT.goto rfl ?_
          refine RS.weak [(0, .str a0), (5, .omap 20), (6, .osl 6 eS.w 0 (o6b ++ [((a0.extract 0 (x23).toNat) ++ ((rdE e_SS x26b x28b).1)) ++ (a0.extract (wrap64 (x23 + 1)).toNat ((a0.size : Int)).toNat)]).length (o6b ++ [((a0.extract 0 (x23).toNat) ++ ((rdE e_SS x26b x28b).1)) ++ (a0.extract (wrap64 (x23 + 1)).toNat ((a0.size : Int)).toNat)]).length), (7, .int .i64 x23), (22, .int .i64 (a0.size : Int)), (23, .int .i64 x23), (26, sq e_SS x26b), (27, .int .i64 x27b), (28, .int .i64 x28b)] [(6, bufE eS (o6b ++ [((a0.extract 0 (x23).toNat) ++ ((rdE e_SS x26b x28b).1)) ++ (a0.extract (wrap64 (x23 + 1)).toNat ((a0.size : Int)).toNat)])), (20, mapE (KL.ints .u8) (ByteArray.empty : ByteArray) AV.str o20)] ⟨Le.eq (by first | rfl | simp), Le.eq (by first | rfl | simp), (by first | exact Le.oslN rfl (by first | rfl | simp) | exact Le.refl _ | exact Le.eq (by first | rfl | simp)), Le.eq (by first | rfl | simp), Le.eq (by first | rfl | simp), Le.eq (by first | rfl | simp), Le.eq (by first | rfl | simp), Le.eq (by first | rfl | simp), Le.eq (by first | rfl | simp), trivial⟩ ⟨⟨_, rfl, LeO.refl _⟩, ⟨_, rfl, LeO.refl _⟩, trivial⟩ rfl (dom0 rfl) ?_
          exact ih.1 a0 x23 o20 x26b x27b x28b (o6b ++ [((a0.extract 0 (x23).toNat) ++ ((rdE e_SS x26b x28b).1)) ++ (a0.extract (wrap64 (x23 + 1)).toNat ((a0.size : Int)).toNat)]) 
        · refine RT.goto rfl ?_
          refine RS.weak [(0, .str a0), (5, .omap 20), (6, .osl 6 eS.w 0 o6b.length o6b.length), (7, .int .i64 x23), (22, .int .i64 (a0.size : Int)), (23, .int .i64 x23), (26, sq e_SS x26b), (27, .int .i64 x27b), (28, .int .i64 x28b)] [(6, bufE eS o6b), (20, mapE (KL.ints .u8) (ByteArray.empty : ByteArray) AV.str o20)] ⟨Le.eq (by first | rfl | simp), Le.eq (by first | rfl | simp), (by first | exact Le.oslN rfl (by first | rfl | simp) | exact Le.refl _ | exact Le.eq (by first | rfl | simp)), Le.eq (by first | rfl | simp), Le.eq (by first | rfl | simp), Le.eq (by first | rfl | simp), Le.eq (by first | rfl | simp), Le.eq (by first | rfl | simp), Le.eq (by first | rfl | simp), trivial⟩ ⟨⟨_, rfl, LeO.refl _⟩, ⟨_, rfl, LeO.refl _⟩, trivial⟩ rfl (dom0 rfl) ?_
          exact ih.1 a0 x23 o20 x26b x27b x28b o6b 
      · refine RT.goto rfl ?_
        refine RS.weak [(0, .str a0), (5, .omap 20), (6, .osl 6 eS.w 0 o6b.length o6b.length), (22, .int .i64 (a0.size : Int)), (23, .int .i64 (wrap64 (x23 + 1)))] [(6, bufE eS o6b), (20, mapE (KL.ints .u8) (ByteArray.empty : ByteArray) AV.str o20)] ⟨Le.eq (by first | rfl | simp), Le.eq (by first | rfl | simp), (by first | exact Le.oslN rfl (by first | rfl | simp) | exact Le.refl _ | exact Le.eq (by first | rfl | simp)), Le.eq (by first | rfl | simp), Le.eq (by first | rfl | simp), trivial⟩ ⟨⟨_, rfl, LeO.refl _⟩, ⟨_, rfl, LeO.refl _⟩, trivial⟩ rfl (dom0 rfl) ?_
        exact ih.2.2 a0 (wrap64 (x23 + 1)) o6b o20 
    · intro a0 x23 o6 o20
      simp only [key_Mistaken.l0]
      refine RS.go ?_
      refine RT.br rfl (fun c19 => ?_) (fun c19 => ?_)
      · refine RT.call0 rfl (fun _ h => key_Codes.ok k  _ h) (LeL.eq rfl) (fun _ => rfl) (fun r4 => ?_)
        refine RS.go ?_
        refine RT.goto rfl ?_
        refine RS.weak [(0, .str a0), (5, .omap 20), (6, .osl 6 eS.w 0 o6.length o6.length), (7, .int .i64 x23), (22, .int .i64 (a0.size : Int)), (23, .int .i64 x23), (26, sq e_SS r4), (27, .int .i64 (r4.length : Int)), (28, .int .i64 0)] [(6, bufE eS o6), (20, mapE (KL.ints .u8) (ByteArray.empty : ByteArray) AV.str o20)] ⟨Le.eq (by first | rfl | simp), Le.eq (by first | rfl | simp), (by first | exact Le.oslN rfl (by first | rfl | simp) | exact Le.refl _ | exact Le.eq (by first | rfl | simp)), Le.eq (by first | rfl | simp), Le.eq (by first | rfl | simp), Le.eq (by first | rfl | simp), Le.eq (by first | rfl | simp), Le.eq (by first | rfl | simp), Le.eq (by first | rfl | simp), trivial⟩ ⟨⟨_, rfl, LeO.refl _⟩, ⟨_, rfl, LeO.refl _⟩, trivial⟩ rfl (dom0 rfl) ?_
        exact ih.2.1 a0 x23 o20 r4 (r4.length : Int) 0 o6 
      · refine RT.freeze 6 _ _ _ [(2, sq eS o6), (3, .int .i64 0)] [] rfl rfl ⟨.inr ⟨_, rfl, by first | exact Nat.le_refl _ | simp, rfl⟩, .inl (Le.refl _), trivial⟩ trivial rfl (dom0 rfl) ?_
        exact RT.done rfl rfl (Le.tup (LeL.cons (Le.refl _) (LeL.cons (Le.refl _) (LeL.nil)))) trivial rfl (dom0 rfl)
theorem key_Mistaken.ok (k : Nat) (a0 : ByteArray) (r : (List ByteArray) × Int) (h : key_Mistaken.f k a0 = some r) : Ct Tryz.prog B 13 [.str a0] (ofL []) (.tup [sq eS r.1, .int .i64 r.2]) (ofL []) := by
  refine Ct.of (Y := (fam Tryz.f13 [18] [] [] (fun r : (List ByteArray) × Int => .tup [sq eS r.1, .int .i64 r.2]) (fun r => []))) Tryz.func13 rfl Tryz.call13 rfl rfl ?_ r h
  unfold key_Mistaken.f
  refine RS.go ?_
  refine RT.call0 rfl (fun _ h => key_CheckSaid.ok k a0 _ h) (LeL.eq rfl) (fun _ => rfl) (fun r1 => ?_)
  refine RS.go ?_
  refine RT.brN rfl (fun c22 => ?_) (fun c22 => ?_)
  · refine RT.br rfl (fun c21 => ?_) (fun c21 => ?_)
    · exact RT.done rfl rfl (Le.tup (LeL.cons (Le.nil _ _) (LeL.cons (Le.refl _) (LeL.nil)))) trivial rfl (dom0 rfl)
    · refine RT.call0 rfl (fun _ h => strings_Contains.ok a0 (⟨#[32]⟩ : ByteArray) _ h) (LeL.eq rfl) (fun _ => rfl) (fun r2 => ?_)
      refine RS.go ?_
      refine RT.brB rfl (fun c20 => ?_) (fun c20 => ?_)
      · exact RT.done rfl rfl (Le.tup (LeL.cons (Le.nil _ _) (LeL.cons (Le.refl _) (LeL.nil)))) trivial rfl (dom0 rfl)
      · refine RT.call rfl (fun _ h => key_byBytes.ok k  _ h) (fun i => bif Nat.beq i 4 then 20 else i) (LeL.eq rfl) trivial (fun _ => rfl) (fun r3 => ?_)
        refine RS.go ?_
        refine RT.goto rfl ?_
        refine RS.ghost 6 6 eS.w (rep eS []) rfl rfl ?_
        refine RS.weak [(0, .str a0), (5, .omap 20), (6, .osl 6 eS.w 0 ([] : List ByteArray).length ([] : List ByteArray).length), (22, .int .i64 (a0.size : Int)), (23, .int .i64 0)] [(6, bufE eS ([] : List ByteArray)), (20, mapE (KL.ints .u8) (ByteArray.empty : ByteArray) AV.str r3)] ⟨Le.eq (by first | rfl | simp), Le.eq (by first | rfl | simp), (by first | exact Le.oslN rfl (by first | rfl | simp) | exact Le.refl _ | exact Le.eq (by first | rfl | simp)), Le.eq (by first | rfl | simp), Le.eq (by first | rfl | simp), trivial⟩ ⟨⟨_, rfl, LeO.refl _⟩, ⟨_, rfl, LeO.refl _⟩, trivial⟩ rfl (dom0 rfl) ?_
        exact (key_Mistaken.loops k).2.2 a0 0 [] r3 
  · exact RT.done rfl rfl (Le.tup (LeL.cons (Le.nil _ _) (LeL.cons (Le.refl _) (LeL.nil)))) trivial rfl (dom0 rfl)
/-! ### call_Is: function 14 -/
def call_Is.f (k : Nat) (a0 : ByteArray) : Option (Bool) := ((call_Parts.f k a0).bind fun r1 => Option.some r1.2.2.2.2.2)
theorem call_Is.ok (k : Nat) (a0 : ByteArray) (r : Bool) (h : call_Is.f k a0 = some r) : Ct Tryz.prog B 14 [.str a0] (ofL []) (.bool r) (ofL []) := by
  refine Ct.of (Y := (fam Tryz.f14 [] [] [] (fun r : Bool => .bool r) (fun r => []))) Tryz.func14 rfl Tryz.call14 rfl rfl ?_ r h
  unfold call_Is.f
  refine RS.go ?_
  refine RT.call0 rfl (fun _ h => call_Parts.ok k a0 _ h) (LeL.eq rfl) (fun _ => rfl) (fun r1 => ?_)
  refine RS.go ?_
  exact RT.done rfl rfl (Le.refl _) trivial rfl (dom0 rfl)
/-! ### call_Steps: function 67 -/
def call_Steps.k0 : List DK := [⟨[89, 98], [], [99], []⟩, ⟨[89, 93, 97], [], [98], []⟩, ⟨[89, 94, 96], [], [97], []⟩, ⟨[89, 95], [], [96], []⟩, ⟨[89, 8], [], [95], []⟩, ⟨[89, 1], [], [94], []⟩, ⟨[89, 90, 92], [], [93], []⟩, ⟨[89, 91], [], [92], []⟩, ⟨[89, 6], [], [91], []⟩, ⟨[89, 0], [], [90], []⟩, ⟨[88], [], [89], []⟩, ⟨[78, 87], [], [88], []⟩, ⟨[78, 82, 86], [], [87], []⟩, ⟨[78, 83, 85], [], [86], []⟩, ⟨[78, 84], [], [85], []⟩, ⟨[78, 8], [], [84], []⟩, ⟨[78, 1], [], [83], []⟩, ⟨[78, 79, 81], [], [82], []⟩, ⟨[78, 80], [], [81], []⟩, ⟨[78, 6], [], [80], []⟩, ⟨[78, 0], [], [79], []⟩, ⟨[77], [], [78], []⟩, ⟨[74, 76], [], [77], []⟩, ⟨[74, 75], [], [76], []⟩, ⟨[74, 8], [], [75], []⟩, ⟨[73], [], [74], []⟩, ⟨[72], [], [73], []⟩, ⟨[6], [], [72], []⟩]
def call_Steps.k1 : List Nat := [0, 1, 3, 7, 15, 31, 63, 127, 127, 383, 1023, 127, 127, 4223, 14463, 32767, 65535, 131071, 262143, 262143, 786431, 2097151, 262143, 262143, 8650751, 29622271, 67108863, 134217727]
def call_Steps.k2 : List DK := [⟨[89, 98], [], [99], []⟩, ⟨[89], [], [98], []⟩, ⟨[89], [], [97], []⟩, ⟨[89], [], [96], []⟩, ⟨[89], [], [95], []⟩, ⟨[89], [], [94], []⟩, ⟨[89], [], [93], []⟩, ⟨[89], [], [92], []⟩, ⟨[89], [], [91], []⟩, ⟨[89], [], [90], []⟩, ⟨[88], [], [89], []⟩, ⟨[78, 87], [], [88], []⟩, ⟨[78, 82, 86], [], [87], []⟩, ⟨[78, 83, 85], [], [86], []⟩, ⟨[78, 84], [], [85], []⟩, ⟨[78, 8], [], [84], []⟩, ⟨[78, 1], [], [83], []⟩, ⟨[78, 79, 81], [], [82], []⟩, ⟨[78, 80], [], [81], []⟩, ⟨[78, 6], [], [80], []⟩, ⟨[78, 0], [], [79], []⟩, ⟨[77], [], [78], []⟩, ⟨[74, 76], [], [77], []⟩, ⟨[74, 75], [], [76], []⟩, ⟨[74, 8], [], [75], []⟩, ⟨[73], [], [74], []⟩, ⟨[72], [], [73], []⟩, ⟨[6], [], [72], []⟩]
def call_Steps.k3 : List DK := [⟨[89, 98], [], [99], []⟩, ⟨[89], [], [98], []⟩, ⟨[89], [], [97], []⟩, ⟨[89], [], [96], []⟩, ⟨[89], [], [95], []⟩, ⟨[89], [], [94], []⟩, ⟨[89], [], [93], []⟩, ⟨[89], [], [92], []⟩, ⟨[89], [], [91], []⟩, ⟨[89], [], [90], []⟩, ⟨[88], [], [89], []⟩, ⟨[78, 87], [], [88], []⟩, ⟨[78], [], [87], []⟩, ⟨[78], [], [86], []⟩, ⟨[78], [], [85], []⟩, ⟨[78], [], [84], []⟩, ⟨[78], [], [83], []⟩, ⟨[78], [], [82], []⟩, ⟨[78], [], [81], []⟩, ⟨[78], [], [80], []⟩, ⟨[78], [], [79], []⟩, ⟨[77], [], [78], []⟩, ⟨[74, 76], [], [77], []⟩, ⟨[74, 75], [], [76], []⟩, ⟨[74, 8], [], [75], []⟩, ⟨[73], [], [74], []⟩, ⟨[72], [], [73], []⟩, ⟨[6], [], [72], []⟩]
def call_Steps.k4 : List DK := [⟨[89, 98], [], [99], []⟩, ⟨[89], [], [98], []⟩, ⟨[89], [], [97], []⟩, ⟨[89], [], [96], []⟩, ⟨[89], [], [95], []⟩, ⟨[89], [], [94], []⟩, ⟨[89], [], [93], []⟩, ⟨[89], [], [92], []⟩, ⟨[89], [], [91], []⟩, ⟨[89], [], [90], []⟩, ⟨[88], [], [89], []⟩, ⟨[78, 87], [], [88], []⟩, ⟨[78], [], [87], []⟩, ⟨[78], [], [86], []⟩, ⟨[78], [], [85], []⟩, ⟨[78], [], [84], []⟩, ⟨[78], [], [83], []⟩, ⟨[78], [], [82], []⟩, ⟨[78], [], [81], []⟩, ⟨[78], [], [80], []⟩, ⟨[78], [], [79], []⟩, ⟨[77], [], [78], []⟩, ⟨[74, 76], [], [77], []⟩, ⟨[74], [], [76], []⟩, ⟨[74], [], [75], []⟩, ⟨[73], [], [74], []⟩, ⟨[72], [], [73], []⟩, ⟨[6], [], [72], []⟩]
def call_Steps.k5 : List DK := [⟨[71, 70], [19], [], [19]⟩, ⟨[48, 49], [19], [71], []⟩, ⟨[55, 61, 69], [], [70], []⟩, ⟨[67, 68], [], [69], []⟩, ⟨[9], [], [68], []⟩, ⟨[66], [], [67], []⟩, ⟨[63, 65], [], [66], []⟩, ⟨[64], [], [65], []⟩, ⟨[8], [], [64], []⟩, ⟨[62], [5], [63], []⟩, ⟨[5], [5], [62], []⟩, ⟨[60], [], [61], []⟩, ⟨[59], [19], [60], []⟩, ⟨[56, 58], [19], [59], []⟩, ⟨[57], [], [58], []⟩, ⟨[8], [], [57], []⟩, ⟨[7], [], [56], []⟩, ⟨[54], [], [55], []⟩, ⟨[53], [], [54], []⟩, ⟨[51, 52], [], [53], []⟩, ⟨[8], [], [52], []⟩, ⟨[50], [5], [51], []⟩, ⟨[5], [5], [50], []⟩, ⟨[8], [], [49], []⟩, ⟨[7], [], [48], []⟩]
def call_Steps.k6 : List Nat := [0, 0, 0, 4, 0, 28, 60, 124, 0, 0, 512, 1792, 3840, 7936, 0, 16384, 0, 65536, 245760, 507904, 0, 2080768, 4194300, 8388607, 16777215]
def call_Steps.k7 : List DK := [⟨[42, 46], [], [47], []⟩, ⟨[43, 45], [], [46], []⟩, ⟨[44], [], [45], []⟩, ⟨[8], [], [44], []⟩, ⟨[1], [], [43], []⟩, ⟨[39, 41], [], [42], []⟩, ⟨[40], [], [41], []⟩, ⟨[6], [], [40], []⟩, ⟨[0], [], [39], []⟩]
def call_Steps.k8 : List Nat := [0, 0, 2, 7, 0, 0, 32, 112, 255]
def call_Steps.k9 : List DK := [⟨[114, 113], [19], [], [19]⟩, ⟨[100, 101], [19], [114], []⟩, ⟨[105, 112], [], [113], []⟩, ⟨[111], [], [112], []⟩, ⟨[110], [], [111], []⟩, ⟨[107, 109], [], [110], []⟩, ⟨[108], [], [109], []⟩, ⟨[8], [], [108], []⟩, ⟨[106], [5], [107], []⟩, ⟨[5], [5], [106], []⟩, ⟨[104], [19], [105], []⟩, ⟨[102, 103], [19], [104], []⟩, ⟨[8], [], [103], []⟩, ⟨[7], [], [102], []⟩, ⟨[8], [], [101], []⟩, ⟨[7], [], [100], []⟩]
def call_Steps.k10 : List Nat := [0, 0, 0, 0, 12, 28, 0, 64, 0, 256, 960, 1984, 4032, 8188, 16383, 32767]
mutual
def call_Steps.j19 : Nat → ByteArray → ByteArray → Int → List Int → List Int → List Int → Int → List Int → Option (Int)
  | 0, _, _, _, _, _, _, _, _ => Option.none
  | k + 1, a0, a1, x13, o5_0, o5_1, o5_2, x22b, o19j19 => call_Steps.l1 k a0 a1 x13 o5_0 o5_1 o5_2 (wrap64 (x22b + 1)) o19j19
def call_Steps.j16 : Nat → ByteArray → ByteArray → Int → List Int → List Int → List Int → Int → List Int → Int → Option (Int)
  | 0, _, _, _, _, _, _, _, _, _ => Option.none
  | k + 1, a0, a1, x13, o5_0, o5_1, o5_2, x22b, o19b, x9j16 => (if 0 ≤ x22b then (if x22b < (o5_2.length : Int) then (if 0 ≤ wrap64 (x22b - 1) then (if wrap64 (x22b - 1) < (o19b.length : Int) then (if 0 ≤ wrap64 (x22b - 1) then (if wrap64 (x22b - 1) < (o5_2.length : Int) then (if 0 ≤ x22b then (if x22b < (o19b.length : Int) then (if x13 > 1 then (if x22b > 1 then (if 0 ≤ wrap64 (x13 - 1) then (if wrap64 (x13 - 1) < (a0.size : Int) then (if 0 ≤ wrap64 (x22b - 2) then (if wrap64 (x22b - 2) < (a1.size : Int) then (if bt a0 (wrap64 (x13 - 1)) = bt a1 (wrap64 (x22b - 2)) then (if 0 ≤ wrap64 (x13 - 2) then (if wrap64 (x13 - 2) < (a0.size : Int) then (if 0 ≤ wrap64 (x22b - 1) then (if wrap64 (x22b - 1) < (a1.size : Int) then (if bt a0 (wrap64 (x13 - 2)) = bt a1 (wrap64 (x22b - 1)) then (if 0 ≤ x22b then (if x22b < (o19b.length : Int) then (if 0 ≤ wrap64 (x22b - 2) then (if wrap64 (x22b - 2) < (o5_1.length : Int) then (if 0 ≤ x22b then (if x22b < (o19b.length : Int) then call_Steps.j19 k a0 a1 x13 o5_0 o5_1 o5_2 x22b ((o19b.set (x22b).toNat (mn (mn (wrap64 ((rd o5_2 x22b) + 1)) (wrap64 ((rd o19b (wrap64 (x22b - 1))) + 1))) (wrap64 ((rd o5_2 (wrap64 (x22b - 1))) + x9j16)))).set (x22b).toNat (mn (rd (o19b.set (x22b).toNat (mn (mn (wrap64 ((rd o5_2 x22b) + 1)) (wrap64 ((rd o19b (wrap64 (x22b - 1))) + 1))) (wrap64 ((rd o5_2 (wrap64 (x22b - 1))) + x9j16)))) x22b) (wrap64 ((rd o5_1 (wrap64 (x22b - 2))) + 1)))) else Option.none) else Option.none) else Option.none) else Option.none) else Option.none) else Option.none) else call_Steps.j19 k a0 a1 x13 o5_0 o5_1 o5_2 x22b (o19b.set (x22b).toNat (mn (mn (wrap64 ((rd o5_2 x22b) + 1)) (wrap64 ((rd o19b (wrap64 (x22b - 1))) + 1))) (wrap64 ((rd o5_2 (wrap64 (x22b - 1))) + x9j16))))) else Option.none) else Option.none) else Option.none) else Option.none) else call_Steps.j19 k a0 a1 x13 o5_0 o5_1 o5_2 x22b (o19b.set (x22b).toNat (mn (mn (wrap64 ((rd o5_2 x22b) + 1)) (wrap64 ((rd o19b (wrap64 (x22b - 1))) + 1))) (wrap64 ((rd o5_2 (wrap64 (x22b - 1))) + x9j16))))) else Option.none) else Option.none) else Option.none) else Option.none) else call_Steps.j19 k a0 a1 x13 o5_0 o5_1 o5_2 x22b (o19b.set (x22b).toNat (mn (mn (wrap64 ((rd o5_2 x22b) + 1)) (wrap64 ((rd o19b (wrap64 (x22b - 1))) + 1))) (wrap64 ((rd o5_2 (wrap64 (x22b - 1))) + x9j16))))) else call_Steps.j19 k a0 a1 x13 o5_0 o5_1 o5_2 x22b (o19b.set (x22b).toNat (mn (mn (wrap64 ((rd o5_2 x22b) + 1)) (wrap64 ((rd o19b (wrap64 (x22b - 1))) + 1))) (wrap64 ((rd o5_2 (wrap64 (x22b - 1))) + x9j16))))) else Option.none) else Option.none) else Option.none) else Option.none) else Option.none) else Option.none) else Option.none) else Option.none)
def call_Steps.l1 : Nat → ByteArray → ByteArray → Int → List Int → List Int → List Int → Int → List Int → Option (Int)
  | 0, _, _, _, _, _, _, _, _ => Option.none
  | k + 1, a0, a1, x13, o5_0, o5_1, o5_2, x22b, o19b => (if x22b < ((List.replicate (wrap64 ((a1.size : Int) + 1)).toNat (0 : Int)).length : Int) then (if x13 = 0 then (if 0 ≤ x22b then (if x22b < (o19b.length : Int) then call_Steps.j19 k a0 a1 x13 o5_0 o5_1 o5_2 x22b (o19b.set (x22b).toNat x22b) else Option.none) else Option.none) else (if x22b = 0 then (if 0 ≤ x22b then (if x22b < (o19b.length : Int) then call_Steps.j19 k a0 a1 x13 o5_0 o5_1 o5_2 x22b (o19b.set (x22b).toNat x13) else Option.none) else Option.none) else (if 0 ≤ wrap64 (x13 - 1) then (if wrap64 (x13 - 1) < (a0.size : Int) then (if 0 ≤ wrap64 (x22b - 1) then (if wrap64 (x22b - 1) < (a1.size : Int) then (if bt a0 (wrap64 (x13 - 1)) = bt a1 (wrap64 (x22b - 1)) then call_Steps.j16 k a0 a1 x13 o5_0 o5_1 o5_2 x22b o19b 0 else call_Steps.j16 k a0 a1 x13 o5_0 o5_1 o5_2 x22b o19b 1) else Option.none) else Option.none) else Option.none) else Option.none))) else call_Steps.l0 k a0 a1 (wrap64 (x13 + 1)) o5_1 o5_2 o19b)
def call_Steps.l0 : Nat → ByteArray → ByteArray → Int → List Int → List Int → List Int → Option (Int)
  | 0, _, _, _, _, _, _ => Option.none
  | k + 1, a0, a1, x13, o5_0, o5_1, o5_2 => (if x13 < wrap64 ((a0.size : Int) + 1) then (if 0 ≤ wrap64 ((a1.size : Int) + 1) then (if wrap64 ((a1.size : Int) + 1) ≤ 1099511627776 then call_Steps.l1 k a0 a1 x13 o5_0 o5_1 o5_2 0 (List.replicate (wrap64 ((a1.size : Int) + 1)).toNat (0 : Int)) else Option.none) else Option.none) else (if 0 ≤ (a1.size : Int) then (if (a1.size : Int) < (o5_2.length : Int) then Option.some (rd o5_2 (a1.size : Int)) else Option.none) else Option.none))
end
def call_Steps.f (k : Nat) (a0 : ByteArray) (a1 : ByteArray) : Option (Int) := call_Steps.l0 k a0 a1 0 ([] : List Int) ([] : List Int) ([] : List Int)
theorem call_Steps.loops : ∀ k, (∀ (a0 : ByteArray) (a1 : ByteArray) (x13 : Int) (o5_0 : List Int) (o5_1 : List Int) (o5_2 : List Int) (x22b : Int) (o19j19 : List Int), RS (fam Tryz.f67 [16, 19, 20] [] [] (fun r : Int => .int .i64 r) (fun r => [])) (Func.reg Tryz.f67 19) ⟨ofT [(0, .str a0), (1, .str a1), (5, .ref 5 0 0 0 3), (6, .int .i64 x13), (7, .osl 19 eI.w 0 o19j19.length o19j19.length), (12, .int .i64 (wrap64 ((a0.size : Int) + 1))), (13, .int .i64 x13), (21, .int .i64 ((List.replicate (wrap64 ((a1.size : Int) + 1)).toNat (0 : Int)).length : Int)), (22, .int .i64 x22b)], ofL [(5, .box [sq eI o5_0, sq eI o5_1, sq eI o5_2]), (19, bufE eI o19j19)]⟩ (call_Steps.j19 k a0 a1 x13 o5_0 o5_1 o5_2 x22b o19j19)) ∧ (∀ (a0 : ByteArray) (a1 : ByteArray) (x13 : Int) (o5_0 : List Int) (o5_1 : List Int) (o5_2 : List Int) (x22b : Int) (o19b : List Int) (x9j16 : Int), RS (fam Tryz.f67 [16, 19, 20] [] [] (fun r : Int => .int .i64 r) (fun r => [])) (Func.reg Tryz.f67 16) ⟨ofT [(0, .str a0), (1, .str a1), (5, .ref 5 0 0 0 3), (6, .int .i64 x13), (7, .osl 19 eI.w 0 o19b.length o19b.length), (8, .int .i64 x22b), (9, .int .i64 x9j16), (12, .int .i64 (wrap64 ((a0.size : Int) + 1))), (13, .int .i64 x13), (21, .int .i64 ((List.replicate (wrap64 ((a1.size : Int) + 1)).toNat (0 : Int)).length : Int)), (22, .int .i64 x22b)], ofL [(5, .box [sq eI o5_0, sq eI o5_1, sq eI o5_2]), (19, bufE eI o19b)]⟩ (call_Steps.j16 k a0 a1 x13 o5_0 o5_1 o5_2 x22b o19b x9j16)) ∧ (∀ (a0 : ByteArray) (a1 : ByteArray) (x13 : Int) (o5_0 : List Int) (o5_1 : List Int) (o5_2 : List Int) (x22b : Int) (o19b : List Int), RS (fam Tryz.f67 [16, 19, 20] [] [] (fun r : Int => .int .i64 r) (fun r => [])) (Func.head Tryz.f67 1) ⟨ofT [(0, .str a0), (1, .str a1), (5, .ref 5 0 0 0 3), (6, .int .i64 x13), (7, .osl 19 eI.w 0 o19b.length o19b.length), (12, .int .i64 (wrap64 ((a0.size : Int) + 1))), (13, .int .i64 x13), (21, .int .i64 ((List.replicate (wrap64 ((a1.size : Int) + 1)).toNat (0 : Int)).length : Int)), (22, .int .i64 x22b)], ofL [(5, .box [sq eI o5_0, sq eI o5_1, sq eI o5_2]), (19, bufE eI o19b)]⟩ (call_Steps.l1 k a0 a1 x13 o5_0 o5_1 o5_2 x22b o19b)) ∧ (∀ (a0 : ByteArray) (a1 : ByteArray) (x13 : Int) (o5_0 : List Int) (o5_1 : List Int) (o5_2 : List Int), RS (fam Tryz.f67 [16, 19, 20] [] [] (fun r : Int => .int .i64 r) (fun r => [])) (Func.head Tryz.f67 0) ⟨ofT [(0, .str a0), (1, .str a1), (5, .ref 5 0 0 0 3), (12, .int .i64 (wrap64 ((a0.size : Int) + 1))), (13, .int .i64 x13)], ofL [(5, .box [sq eI o5_0, sq eI o5_1, sq eI o5_2])]⟩ (call_Steps.l0 k a0 a1 x13 o5_0 o5_1 o5_2))
  | 0 => ⟨by intro _ _ _ _ _ _ _ _; simp only [call_Steps.j19]; exact RS.none, by intro _ _ _ _ _ _ _ _ _; simp only [call_Steps.j16]; exact RS.none, by intro _ _ _ _ _ _ _ _; simp only [call_Steps.l1]; exact RS.none, by intro _ _ _ _ _ _; simp only [call_Steps.l0]; exact RS.none⟩
  | k + 1 => by
    have ih := call_Steps.loops k
    refine ⟨?_, ?_, ?_, ?_⟩
    · intro a0 a1 x13 o5_0 o5_1 o5_2 x22b o19j19
      simp only [call_Steps.j19]
      refine RS.region ?_
      refine RS.go ?_
      refine RT.goto rfl ?_
      refine RS.weak [(0, .str a0), (1, .str a1), (5, .ref 5 0 0 0 3), (6, .int .i64 x13), (7, .osl 19 eI.w 0 o19j19.length o19j19.length), (12, .int .i64 (wrap64 ((a0.size : Int) + 1))), (13, .int .i64 x13), (21, .int .i64 ((List.replicate (wrap64 ((a1.size : Int) + 1)).toNat (0 : Int)).length : Int)), (22, .int .i64 (wrap64 (x22b + 1)))] [(5, .box [sq eI o5_0, sq eI o5_1, sq eI o5_2]), (19, bufE eI o19j19)] ⟨Le.eq (by first | rfl | simp), Le.eq (by first | rfl | simp), Le.eq (by first | rfl | simp), Le.eq (by first | rfl | simp), (by first | exact Le.oslN rfl (by first | rfl | simp) | exact Le.refl _ | exact Le.eq (by first | rfl | simp)), Le.eq (by first | rfl | simp), Le.eq (by first | rfl | simp), Le.eq (by first | rfl | simp), Le.eq (by first | rfl | simp), trivial⟩ ⟨⟨_, rfl, LeO.refl _⟩, ⟨_, rfl, LeO.refl _⟩, trivial⟩ rfl (dom0 rfl) ?_
      exact ih.2.2.1 a0 a1 x13 o5_0 o5_1 o5_2 (wrap64 (x22b + 1)) o19j19 
    · intro a0 a1 x13 o5_0 o5_1 o5_2 x22b o19b x9j16
      simp only [call_Steps.j16]
      refine RS.draw rfl ?_
      refine RD.brT rfl ?_
      refine RD.brT rfl ?_
      refine RD.br rfl (fun c11 => ?_) (fun c11 => RD.none)
      refine RD.br rfl (fun c12 => ?_) (fun c12 => RD.none)
      refine RD.req rfl (by first | exact Nat.zero_add _ | rfl | simp) ?_
      refine RD.br rfl (fun c13 => ?_) (fun c13 => RD.none)
      refine RD.br rfl (fun c14 => ?_) (fun c14 => RD.none)
      refine RD.req rfl ⟨by first | rfl | simp, elt_lt c13 (by first | exact c14 | simpa using c14)⟩ ?_
      refine RD.brT rfl ?_
      refine RD.brT rfl ?_
      refine RD.br rfl (fun c15 => ?_) (fun c15 => RD.none)
      refine RD.br rfl (fun c16 => ?_) (fun c16 => RD.none)
      refine RD.req rfl (by first | exact Nat.zero_add _ | rfl | simp) ?_
      refine RD.br rfl (fun c17 => ?_) (fun c17 => RD.none)
      refine RD.br rfl (fun c18 => ?_) (fun c18 => RD.none)
      refine RD.req rfl ⟨by first | rfl | simp, elt_lt c17 (by first | exact c18 | simpa using c18)⟩ ?_
      refine RD.fin call_Steps.k5 call_Steps.k6 rfl rfl (by decide +kernel) ?_
      refine RS.obj 19 (bufE eI (o19b.set (x22b).toNat (mn (mn (wrap64 ((rd o5_2 x22b) + 1)) (wrap64 ((rd o19b (wrap64 (x22b - 1))) + 1))) (wrap64 ((rd o5_2 (wrap64 (x22b - 1))) + x9j16))))) ⟨_, rfl, LeO.setE c17 (by first | exact c18 | simpa using c18) (all1 rfl)⟩ ?_
      refine RS.go ?_
      refine RT.goto rfl ?_
      refine RS.draw rfl ?_
      refine RD.br rfl (fun c36 => ?_) (fun c36 => ?_)
      · refine RD.brT rfl ?_
        refine RD.brT rfl ?_
        refine RD.br rfl (fun c35 => ?_) (fun c35 => ?_)
        · refine RD.brT rfl ?_
          refine RD.brT rfl ?_
          refine RD.brT rfl ?_
          refine RD.br rfl (fun c19 => ?_) (fun c19 => RD.none)
          refine RD.br rfl (fun c20 => ?_) (fun c20 => RD.none)
          refine RD.brT rfl ?_
          refine RD.brT rfl ?_
          refine RD.brT rfl ?_
          refine RD.brT rfl ?_
          refine RD.br rfl (fun c21 => ?_) (fun c21 => RD.none)
          refine RD.br rfl (fun c22 => ?_) (fun c22 => RD.none)
          refine RD.brT rfl ?_
          refine RD.brT rfl ?_
          refine RD.br rfl (fun c34 => ?_) (fun c34 => ?_)
          · refine RD.brT rfl ?_
            refine RD.brT rfl ?_
            refine RD.brT rfl ?_
            refine RD.br rfl (fun c23 => ?_) (fun c23 => RD.none)
            refine RD.br rfl (fun c24 => ?_) (fun c24 => RD.none)
            refine RD.brT rfl ?_
            refine RD.brT rfl ?_
            refine RD.brT rfl ?_
            refine RD.brT rfl ?_
            refine RD.br rfl (fun c25 => ?_) (fun c25 => RD.none)
            refine RD.br rfl (fun c26 => ?_) (fun c26 => RD.none)
            refine RD.brT rfl ?_
            refine RD.brT rfl ?_
            refine RD.fin call_Steps.k0 call_Steps.k1 rfl rfl (by decide +kernel) ?_
            refine RS.go ?_
            refine RT.br rfl (fun c33 => ?_) (fun c33 => ?_)
            · refine RT.goto rfl ?_
              refine RS.draw rfl ?_
              refine RD.req rfl (by first | exact Nat.zero_add _ | rfl | simp) ?_
              refine RD.br rfl (fun c27 => ?_) (fun c27 => RD.none)
              refine RD.br rfl (fun c28 => ?_) (fun c28 => RD.none)
              refine RD.req rfl ⟨by first | rfl | simp, elt_lt c27 (by first | exact c28 | simpa using c28)⟩ ?_
              refine RD.brT rfl ?_
              refine RD.brT rfl ?_
              refine RD.br rfl (fun c29 => ?_) (fun c29 => RD.none)
              refine RD.br rfl (fun c30 => ?_) (fun c30 => RD.none)
              refine RD.req rfl (by first | exact Nat.zero_add _ | rfl | simp) ?_
              refine RD.br rfl (fun c31 => ?_) (fun c31 => RD.none)
              refine RD.br rfl (fun c32 => ?_) (fun c32 => RD.none)
              refine RD.req rfl ⟨by first | rfl | simp, elt_lt c31 (by first | exact c32 | simpa using c32)⟩ ?_
              refine RD.fin call_Steps.k9 call_Steps.k10 rfl rfl (by decide +kernel) ?_
              refine RS.obj 19 (bufE eI ((o19b.set (x22b).toNat (mn (mn (wrap64 ((rd o5_2 x22b) + 1)) (wrap64 ((rd o19b (wrap64 (x22b - 1))) + 1))) (wrap64 ((rd o5_2 (wrap64 (x22b - 1))) + x9j16)))).set (x22b).toNat (mn (rd (o19b.set (x22b).toNat (mn (mn (wrap64 ((rd o5_2 x22b) + 1)) (wrap64 ((rd o19b (wrap64 (x22b - 1))) + 1))) (wrap64 ((rd o5_2 (wrap64 (x22b - 1))) + x9j16)))) x22b) (wrap64 ((rd o5_1 (wrap64 (x22b - 2))) + 1))))) ⟨_, rfl, LeO.setE c31 (by first | exact c32 | simpa using c32) (all1 rfl)⟩ ?_
              refine RS.go ?_
              refine RT.goto rfl ?_
              refine RS.weak [(0, .str a0), (1, .str a1), (5, .ref 5 0 0 0 3), (6, .int .i64 x13), (7, .osl 19 eI.w 0 ((o19b.set (x22b).toNat (mn (mn (wrap64 ((rd o5_2 x22b) + 1)) (wrap64 ((rd o19b (wrap64 (x22b - 1))) + 1))) (wrap64 ((rd o5_2 (wrap64 (x22b - 1))) + x9j16)))).set (x22b).toNat (mn (rd (o19b.set (x22b).toNat (mn (mn (wrap64 ((rd o5_2 x22b) + 1)) (wrap64 ((rd o19b (wrap64 (x22b - 1))) + 1))) (wrap64 ((rd o5_2 (wrap64 (x22b - 1))) + x9j16)))) x22b) (wrap64 ((rd o5_1 (wrap64 (x22b - 2))) + 1)))).length ((o19b.set (x22b).toNat (mn (mn (wrap64 ((rd o5_2 x22b) + 1)) (wrap64 ((rd o19b (wrap64 (x22b - 1))) + 1))) (wrap64 ((rd o5_2 (wrap64 (x22b - 1))) + x9j16)))).set (x22b).toNat (mn (rd (o19b.set (x22b).toNat (mn (mn (wrap64 ((rd o5_2 x22b) + 1)) (wrap64 ((rd o19b (wrap64 (x22b - 1))) + 1))) (wrap64 ((rd o5_2 (wrap64 (x22b - 1))) + x9j16)))) x22b) (wrap64 ((rd o5_1 (wrap64 (x22b - 2))) + 1)))).length), (12, .int .i64 (wrap64 ((a0.size : Int) + 1))), (13, .int .i64 x13), (21, .int .i64 ((List.replicate (wrap64 ((a1.size : Int) + 1)).toNat (0 : Int)).length : Int)), (22, .int .i64 x22b)] [(5, .box [sq eI o5_0, sq eI o5_1, sq eI o5_2]), (19, bufE eI ((o19b.set (x22b).toNat (mn (mn (wrap64 ((rd o5_2 x22b) + 1)) (wrap64 ((rd o19b (wrap64 (x22b - 1))) + 1))) (wrap64 ((rd o5_2 (wrap64 (x22b - 1))) + x9j16)))).set (x22b).toNat (mn (rd (o19b.set (x22b).toNat (mn (mn (wrap64 ((rd o5_2 x22b) + 1)) (wrap64 ((rd o19b (wrap64 (x22b - 1))) + 1))) (wrap64 ((rd o5_2 (wrap64 (x22b - 1))) + x9j16)))) x22b) (wrap64 ((rd o5_1 (wrap64 (x22b - 2))) + 1)))))] ⟨Le.eq (by first | rfl | simp), Le.eq (by first | rfl | simp), Le.eq (by first | rfl | simp), Le.eq (by first | rfl | simp), (by first | exact Le.oslN rfl (by first | rfl | simp) | exact Le.refl _ | exact Le.eq (by first | rfl | simp)), Le.eq (by first | rfl | simp), Le.eq (by first | rfl | simp), Le.eq (by first | rfl | simp), Le.eq (by first | rfl | simp), trivial⟩ ⟨⟨_, rfl, LeO.refl _⟩, ⟨_, rfl, LeO.refl _⟩, trivial⟩ rfl (dom0 rfl) ?_
              exact ih.1 a0 a1 x13 o5_0 o5_1 o5_2 x22b ((o19b.set (x22b).toNat (mn (mn (wrap64 ((rd o5_2 x22b) + 1)) (wrap64 ((rd o19b (wrap64 (x22b - 1))) + 1))) (wrap64 ((rd o5_2 (wrap64 (x22b - 1))) + x9j16)))).set (x22b).toNat (mn (rd (o19b.set (x22b).toNat (mn (mn (wrap64 ((rd o5_2 x22b) + 1)) (wrap64 ((rd o19b (wrap64 (x22b - 1))) + 1))) (wrap64 ((rd o5_2 (wrap64 (x22b - 1))) + x9j16)))) x22b) (wrap64 ((rd o5_1 (wrap64 (x22b - 2))) + 1)))) 
            · refine RT.goto rfl ?_
              refine RS.weak [(0, .str a0), (1, .str a1), (5, .ref 5 0 0 0 3), (6, .int .i64 x13), (7, .osl 19 eI.w 0 (o19b.set (x22b).toNat (mn (mn (wrap64 ((rd o5_2 x22b) + 1)) (wrap64 ((rd o19b (wrap64 (x22b - 1))) + 1))) (wrap64 ((rd o5_2 (wrap64 (x22b - 1))) + x9j16)))).length (o19b.set (x22b).toNat (mn (mn (wrap64 ((rd o5_2 x22b) + 1)) (wrap64 ((rd o19b (wrap64 (x22b - 1))) + 1))) (wrap64 ((rd o5_2 (wrap64 (x22b - 1))) + x9j16)))).length), (12, .int .i64 (wrap64 ((a0.size : Int) + 1))), (13, .int .i64 x13), (21, .int .i64 ((List.replicate (wrap64 ((a1.size : Int) + 1)).toNat (0 : Int)).length : Int)), (22, .int .i64 x22b)] [(5, .box [sq eI o5_0, sq eI o5_1, sq eI o5_2]), (19, bufE eI (o19b.set (x22b).toNat (mn (mn (wrap64 ((rd o5_2 x22b) + 1)) (wrap64 ((rd o19b (wrap64 (x22b - 1))) + 1))) (wrap64 ((rd o5_2 (wrap64 (x22b - 1))) + x9j16)))))] ⟨Le.eq (by first | rfl | simp), Le.eq (by first | rfl | simp), Le.eq (by first | rfl | simp), Le.eq (by first | rfl | simp), (by first | exact Le.oslN rfl (by first | rfl | simp) | exact Le.refl _ | exact Le.eq (by first | rfl | simp)), Le.eq (by first | rfl | simp), Le.eq (by first | rfl | simp), Le.eq (by first | rfl | simp), Le.eq (by first | rfl | simp), trivial⟩ ⟨⟨_, rfl, LeO.refl _⟩, ⟨_, rfl, LeO.refl _⟩, trivial⟩ rfl (dom0 rfl) ?_
              exact ih.1 a0 a1 x13 o5_0 o5_1 o5_2 x22b (o19b.set (x22b).toNat (mn (mn (wrap64 ((rd o5_2 x22b) + 1)) (wrap64 ((rd o19b (wrap64 (x22b - 1))) + 1))) (wrap64 ((rd o5_2 (wrap64 (x22b - 1))) + x9j16)))) 
          · refine RD.brF rfl ?_
            refine RD.brF rfl ?_
            refine RD.brF rfl ?_
            refine RD.brF rfl ?_
            refine RD.brF rfl ?_
            refine RD.brF rfl ?_
            refine RD.brF rfl ?_
            refine RD.brF rfl ?_
            refine RD.brF rfl ?_
            refine RD.fin call_Steps.k2 call_Steps.k1 rfl rfl (by decide +kernel) ?_
            refine RS.go ?_
            refine RT.brF rfl ?_
            refine RT.goto rfl ?_
            refine RS.weak [(0, .str a0), (1, .str a1), (5, .ref 5 0 0 0 3), (6, .int .i64 x13), (7, .osl 19 eI.w 0 (o19b.set (x22b).toNat (mn (mn (wrap64 ((rd o5_2 x22b) + 1)) (wrap64 ((rd o19b (wrap64 (x22b - 1))) + 1))) (wrap64 ((rd o5_2 (wrap64 (x22b - 1))) + x9j16)))).length (o19b.set (x22b).toNat (mn (mn (wrap64 ((rd o5_2 x22b) + 1)) (wrap64 ((rd o19b (wrap64 (x22b - 1))) + 1))) (wrap64 ((rd o5_2 (wrap64 (x22b - 1))) + x9j16)))).length), (12, .int .i64 (wrap64 ((a0.size : Int) + 1))), (13, .int .i64 x13), (21, .int .i64 ((List.replicate (wrap64 ((a1.size : Int) + 1)).toNat (0 : Int)).length : Int)), (22, .int .i64 x22b)] [(5, .box [sq eI o5_0, sq eI o5_1, sq eI o5_2]), (19, bufE eI (o19b.set (x22b).toNat (mn (mn (wrap64 ((rd o5_2 x22b) + 1)) (wrap64 ((rd o19b (wrap64 (x22b - 1))) + 1))) (wrap64 ((rd o5_2 (wrap64 (x22b - 1))) + x9j16)))))] ⟨Le.eq (by first | rfl | simp), Le.eq (by first | rfl | simp), Le.eq (by first | rfl | simp), Le.eq (by first | rfl | simp), (by first | exact Le.oslN rfl (by first | rfl | simp) | exact Le.refl _ | exact Le.eq (by first | rfl | simp)), Le.eq (by first | rfl | simp), Le.eq (by first | rfl | simp), Le.eq (by first | rfl | simp), Le.eq (by first | rfl | simp), trivial⟩ ⟨⟨_, rfl, LeO.refl _⟩, ⟨_, rfl, LeO.refl _⟩, trivial⟩ rfl (dom0 rfl) ?_
            exact ih.1 a0 a1 x13 o5_0 o5_1 o5_2 x22b (o19b.set (x22b).toNat (mn (mn (wrap64 ((rd o5_2 x22b) + 1)) (wrap64 ((rd o19b (wrap64 (x22b - 1))) + 1))) (wrap64 ((rd o5_2 (wrap64 (x22b - 1))) + x9j16)))) 
        · refine RD.brF rfl ?_
          refine RD.brF rfl ?_
          refine RD.brF rfl ?_
          refine RD.brF rfl ?_
          refine RD.brF rfl ?_
          refine RD.brF rfl ?_
          refine RD.brF rfl ?_
          refine RD.brF rfl ?_
          refine RD.brF rfl ?_
          refine RD.brF rfl ?_
          refine RD.brF rfl ?_
          refine RD.brF rfl ?_
          refine RD.brF rfl ?_
          refine RD.brF rfl ?_
          refine RD.brF rfl ?_
          refine RD.brF rfl ?_
          refine RD.brF rfl ?_
          refine RD.brF rfl ?_
          refine RD.brF rfl ?_
          refine RD.fin call_Steps.k3 call_Steps.k1 rfl rfl (by decide +kernel) ?_
          refine RS.go ?_
          refine RT.brF rfl ?_
          refine RT.goto rfl ?_
          refine RS.weak [(0, .str a0), (1, .str a1), (5, .ref 5 0 0 0 3), (6, .int .i64 x13), (7, .osl 19 eI.w 0 (o19b.set (x22b).toNat (mn (mn (wrap64 ((rd o5_2 x22b) + 1)) (wrap64 ((rd o19b (wrap64 (x22b - 1))) + 1))) (wrap64 ((rd o5_2 (wrap64 (x22b - 1))) + x9j16)))).length (o19b.set (x22b).toNat (mn (mn (wrap64 ((rd o5_2 x22b) + 1)) (wrap64 ((rd o19b (wrap64 (x22b - 1))) + 1))) (wrap64 ((rd o5_2 (wrap64 (x22b - 1))) + x9j16)))).length), (12, .int .i64 (wrap64 ((a0.size : Int) + 1))), (13, .int .i64 x13), (21, .int .i64 ((List.replicate (wrap64 ((a1.size : Int) + 1)).toNat (0 : Int)).length : Int)), (22, .int .i64 x22b)] [(5, .box [sq eI o5_0, sq eI o5_1, sq eI o5_2]), (19, bufE eI (o19b.set (x22b).toNat (mn (mn (wrap64 ((rd o5_2 x22b) + 1)) (wrap64 ((rd o19b (wrap64 (x22b - 1))) + 1))) (wrap64 ((rd o5_2 (wrap64 (x22b - 1))) + x9j16)))))] ⟨Le.eq (by first | rfl | simp), Le.eq (by first | rfl | simp), Le.eq (by first | rfl | simp), Le.eq (by first | rfl | simp), (by first | exact Le.oslN rfl (by first | rfl | simp) | exact Le.refl _ | exact Le.eq (by first | rfl | simp)), Le.eq (by first | rfl | simp), Le.eq (by first | rfl | simp), Le.eq (by first | rfl | simp), Le.eq (by first | rfl | simp), trivial⟩ ⟨⟨_, rfl, LeO.refl _⟩, ⟨_, rfl, LeO.refl _⟩, trivial⟩ rfl (dom0 rfl) ?_
          exact ih.1 a0 a1 x13 o5_0 o5_1 o5_2 x22b (o19b.set (x22b).toNat (mn (mn (wrap64 ((rd o5_2 x22b) + 1)) (wrap64 ((rd o19b (wrap64 (x22b - 1))) + 1))) (wrap64 ((rd o5_2 (wrap64 (x22b - 1))) + x9j16)))) 
      · refine RD.brF rfl ?_
        refine RD.brF rfl ?_
        refine RD.brF rfl ?_
        refine RD.brF rfl ?_
        refine RD.brF rfl ?_
        refine RD.brF rfl ?_
        refine RD.brF rfl ?_
        refine RD.brF rfl ?_
        refine RD.brF rfl ?_
        refine RD.brF rfl ?_
        refine RD.brF rfl ?_
        refine RD.brF rfl ?_
        refine RD.brF rfl ?_
        refine RD.brF rfl ?_
        refine RD.brF rfl ?_
        refine RD.brF rfl ?_
        refine RD.brF rfl ?_
        refine RD.brF rfl ?_
        refine RD.brF rfl ?_
        refine RD.brF rfl ?_
        refine RD.brF rfl ?_
        refine RD.brF rfl ?_
        refine RD.fin call_Steps.k4 call_Steps.k1 rfl rfl (by decide +kernel) ?_
        refine RS.go ?_
        refine RT.brF rfl ?_
        refine RT.goto rfl ?_
        refine RS.weak [(0, .str a0), (1, .str a1), (5, .ref 5 0 0 0 3), (6, .int .i64 x13), (7, .osl 19 eI.w 0 (o19b.set (x22b).toNat (mn (mn (wrap64 ((rd o5_2 x22b) + 1)) (wrap64 ((rd o19b (wrap64 (x22b - 1))) + 1))) (wrap64 ((rd o5_2 (wrap64 (x22b - 1))) + x9j16)))).length (o19b.set (x22b).toNat (mn (mn (wrap64 ((rd o5_2 x22b) + 1)) (wrap64 ((rd o19b (wrap64 (x22b - 1))) + 1))) (wrap64 ((rd o5_2 (wrap64 (x22b - 1))) + x9j16)))).length), (12, .int .i64 (wrap64 ((a0.size : Int) + 1))), (13, .int .i64 x13), (21, .int .i64 ((List.replicate (wrap64 ((a1.size : Int) + 1)).toNat (0 : Int)).length : Int)), (22, .int .i64 x22b)] [(5, .box [sq eI o5_0, sq eI o5_1, sq eI o5_2]), (19, bufE eI (o19b.set (x22b).toNat (mn (mn (wrap64 ((rd o5_2 x22b) + 1)) (wrap64 ((rd o19b (wrap64 (x22b - 1))) + 1))) (wrap64 ((rd o5_2 (wrap64 (x22b - 1))) + x9j16)))))] ⟨Le.eq (by first | rfl | simp), Le.eq (by first | rfl | simp), Le.eq (by first | rfl | simp), Le.eq (by first | rfl | simp), (by first | exact Le.oslN rfl (by first | rfl | simp) | exact Le.refl _ | exact Le.eq (by first | rfl | simp)), Le.eq (by first | rfl | simp), Le.eq (by first | rfl | simp), Le.eq (by first | rfl | simp), Le.eq (by first | rfl | simp), trivial⟩ ⟨⟨_, rfl, LeO.refl _⟩, ⟨_, rfl, LeO.refl _⟩, trivial⟩ rfl (dom0 rfl) ?_
        exact ih.1 a0 a1 x13 o5_0 o5_1 o5_2 x22b (o19b.set (x22b).toNat (mn (mn (wrap64 ((rd o5_2 x22b) + 1)) (wrap64 ((rd o19b (wrap64 (x22b - 1))) + 1))) (wrap64 ((rd o5_2 (wrap64 (x22b - 1))) + x9j16)))) 
    · intro a0 a1 x13 o5_0 o5_1 o5_2 x22b o19b
      simp only [call_Steps.l1]
      refine RS.go ?_
      refine RT.br rfl (fun c40 => ?_) (fun c40 => ?_)
      · refine RT.br rfl (fun c39 => ?_) (fun c39 => ?_)
        · refine RT.req rfl (by first | exact Nat.zero_add _ | rfl | simp) ?_
          refine RT.br rfl (fun c3 => ?_) (fun c3 => RT.none)
          refine RT.br rfl (fun c4 => ?_) (fun c4 => RT.none)
          refine RT.req rfl ⟨by first | rfl | simp, elt_lt c3 (by first | exact c4 | simpa using c4)⟩ ?_
          refine RT.goto rfl ?_
          refine RS.obj 19 (bufE eI (o19b.set (x22b).toNat x22b)) ⟨_, rfl, LeO.setE c3 (by first | exact c4 | simpa using c4) (all1 rfl)⟩ ?_
          refine RS.go ?_
          refine RT.goto rfl ?_
          refine RS.weak [(0, .str a0), (1, .str a1), (5, .ref 5 0 0 0 3), (6, .int .i64 x13), (7, .osl 19 eI.w 0 (o19b.set (x22b).toNat x22b).length (o19b.set (x22b).toNat x22b).length), (12, .int .i64 (wrap64 ((a0.size : Int) + 1))), (13, .int .i64 x13), (21, .int .i64 ((List.replicate (wrap64 ((a1.size : Int) + 1)).toNat (0 : Int)).length : Int)), (22, .int .i64 x22b)] [(5, .box [sq eI o5_0, sq eI o5_1, sq eI o5_2]), (19, bufE eI (o19b.set (x22b).toNat x22b))] ⟨Le.eq (by first | rfl | simp), Le.eq (by first | rfl | simp), Le.eq (by first | rfl | simp), Le.eq (by first | rfl | simp), (by first | exact Le.oslN rfl (by first | rfl | simp) | exact Le.refl _ | exact Le.eq (by first | rfl | simp)), Le.eq (by first | rfl | simp), Le.eq (by first | rfl | simp), Le.eq (by first | rfl | simp), Le.eq (by first | rfl | simp), trivial⟩ ⟨⟨_, rfl, LeO.refl _⟩, ⟨_, rfl, LeO.refl _⟩, trivial⟩ rfl (dom0 rfl) ?_
          exact ih.1 a0 a1 x13 o5_0 o5_1 o5_2 x22b (o19b.set (x22b).toNat x22b) 
        · refine RT.br rfl (fun c38 => ?_) (fun c38 => ?_)
          · refine RT.req rfl (by first | exact Nat.zero_add _ | rfl | simp) ?_
            refine RT.br rfl (fun c5 => ?_) (fun c5 => RT.none)
            refine RT.br rfl (fun c6 => ?_) (fun c6 => RT.none)
            refine RT.req rfl ⟨by first | rfl | simp, elt_lt c5 (by first | exact c6 | simpa using c6)⟩ ?_
            refine RT.goto rfl ?_
            refine RS.obj 19 (bufE eI (o19b.set (x22b).toNat x13)) ⟨_, rfl, LeO.setE c5 (by first | exact c6 | simpa using c6) (all1 rfl)⟩ ?_
            refine RS.go ?_
            refine RT.goto rfl ?_
            refine RS.weak [(0, .str a0), (1, .str a1), (5, .ref 5 0 0 0 3), (6, .int .i64 x13), (7, .osl 19 eI.w 0 (o19b.set (x22b).toNat x13).length (o19b.set (x22b).toNat x13).length), (12, .int .i64 (wrap64 ((a0.size : Int) + 1))), (13, .int .i64 x13), (21, .int .i64 ((List.replicate (wrap64 ((a1.size : Int) + 1)).toNat (0 : Int)).length : Int)), (22, .int .i64 x22b)] [(5, .box [sq eI o5_0, sq eI o5_1, sq eI o5_2]), (19, bufE eI (o19b.set (x22b).toNat x13))] ⟨Le.eq (by first | rfl | simp), Le.eq (by first | rfl | simp), Le.eq (by first | rfl | simp), Le.eq (by first | rfl | simp), (by first | exact Le.oslN rfl (by first | rfl | simp) | exact Le.refl _ | exact Le.eq (by first | rfl | simp)), Le.eq (by first | rfl | simp), Le.eq (by first | rfl | simp), Le.eq (by first | rfl | simp), Le.eq (by first | rfl | simp), trivial⟩ ⟨⟨_, rfl, LeO.refl _⟩, ⟨_, rfl, LeO.refl _⟩, trivial⟩ rfl (dom0 rfl) ?_
            exact ih.1 a0 a1 x13 o5_0 o5_1 o5_2 x22b (o19b.set (x22b).toNat x13) 
          · refine RT.goto rfl ?_
            refine RS.draw rfl ?_
            refine RD.br rfl (fun c7 => ?_) (fun c7 => RD.none)
            refine RD.br rfl (fun c8 => ?_) (fun c8 => RD.none)
            refine RD.br rfl (fun c9 => ?_) (fun c9 => RD.none)
            refine RD.br rfl (fun c10 => ?_) (fun c10 => RD.none)
            refine RD.fin call_Steps.k7 call_Steps.k8 rfl rfl (by decide +kernel) ?_
            refine RS.go ?_
            refine RT.br rfl (fun c37 => ?_) (fun c37 => ?_)
            · refine RT.goto rfl ?_
              refine RS.weak [(0, .str a0), (1, .str a1), (5, .ref 5 0 0 0 3), (6, .int .i64 x13), (7, .osl 19 eI.w 0 o19b.length o19b.length), (8, .int .i64 x22b), (9, .int .i64 0), (12, .int .i64 (wrap64 ((a0.size : Int) + 1))), (13, .int .i64 x13), (21, .int .i64 ((List.replicate (wrap64 ((a1.size : Int) + 1)).toNat (0 : Int)).length : Int)), (22, .int .i64 x22b)] [(5, .box [sq eI o5_0, sq eI o5_1, sq eI o5_2]), (19, bufE eI o19b)] ⟨Le.eq (by first | rfl | simp), Le.eq (by first | rfl | simp), Le.eq (by first | rfl | simp), Le.eq (by first | rfl | simp), (by first | exact Le.oslN rfl (by first | rfl | simp) | exact Le.refl _ | exact Le.eq (by first | rfl | simp)), Le.eq (by first | rfl | simp), Le.eq (by first | rfl | simp), Le.eq (by first | rfl | simp), Le.eq (by first | rfl | simp), Le.eq (by first | rfl | simp), Le.eq (by first | rfl | simp), trivial⟩ ⟨⟨_, rfl, LeO.refl _⟩, ⟨_, rfl, LeO.refl _⟩, trivial⟩ rfl (dom0 rfl) ?_
              exact ih.2.1 a0 a1 x13 o5_0 o5_1 o5_2 x22b o19b 0 
            · refine RT.goto rfl ?_
              refine RS.weak [(0, .str a0), (1, .str a1), (5, .ref 5 0 0 0 3), (6, .int .i64 x13), (7, .osl 19 eI.w 0 o19b.length o19b.length), (8, .int .i64 x22b), (9, .int .i64 1), (12, .int .i64 (wrap64 ((a0.size : Int) + 1))), (13, .int .i64 x13), (21, .int .i64 ((List.replicate (wrap64 ((a1.size : Int) + 1)).toNat (0 : Int)).length : Int)), (22, .int .i64 x22b)] [(5, .box [sq eI o5_0, sq eI o5_1, sq eI o5_2]), (19, bufE eI o19b)] ⟨Le.eq (by first | rfl | simp), Le.eq (by first | rfl | simp), Le.eq (by first | rfl | simp), Le.eq (by first | rfl | simp), (by first | exact Le.oslN rfl (by first | rfl | simp) | exact Le.refl _ | exact Le.eq (by first | rfl | simp)), Le.eq (by first | rfl | simp), Le.eq (by first | rfl | simp), Le.eq (by first | rfl | simp), Le.eq (by first | rfl | simp), Le.eq (by first | rfl | simp), Le.eq (by first | rfl | simp), trivial⟩ ⟨⟨_, rfl, LeO.refl _⟩, ⟨_, rfl, LeO.refl _⟩, trivial⟩ rfl (dom0 rfl) ?_
              exact ih.2.1 a0 a1 x13 o5_0 o5_1 o5_2 x22b o19b 1 
      · refine RT.goto rfl ?_
        refine RS.freeze 19 _ _ _ [(0, .str a0), (1, .str a1), (5, .ref 5 0 0 0 3), (7, sq eI o19b), (12, .int .i64 (wrap64 ((a0.size : Int) + 1))), (13, .int .i64 x13)] [(5, .box [sq eI o5_0, sq eI o5_1, sq eI o5_2])] rfl ⟨.inl (Le.refl _), .inl (Le.refl _), .inl (Le.refl _), .inr ⟨_, rfl, by first | exact Nat.le_refl _ | simp, rfl⟩, .inl (Le.refl _), .inl (Le.refl _), trivial⟩ ⟨⟨_, rfl, LeO.refl _⟩, trivial⟩ rfl (dom0 rfl) ?_
        refine RS.region ?_
        refine RS.go ?_
        refine RT.brT rfl ?_
        refine RT.brT rfl ?_
        refine RT.brT rfl ?_
        refine RT.brT rfl ?_
        refine RT.goto rfl ?_
        refine RS.weak [(0, .str a0), (1, .str a1), (5, .ref 5 0 0 0 3), (12, .int .i64 (wrap64 ((a0.size : Int) + 1))), (13, .int .i64 (wrap64 (x13 + 1)))] [(5, .box [sq eI o5_1, sq eI o5_2, sq eI o19b])] ⟨Le.eq (by first | rfl | simp), Le.eq (by first | rfl | simp), Le.eq (by first | rfl | simp), Le.eq (by first | rfl | simp), Le.eq (by first | rfl | simp), trivial⟩ ⟨⟨_, rfl, LeO.refl _⟩, trivial⟩ rfl (dom0 rfl) ?_
        exact ih.2.2.2 a0 a1 (wrap64 (x13 + 1)) o5_1 o5_2 o19b 
    · intro a0 a1 x13 o5_0 o5_1 o5_2
      simp only [call_Steps.l0]
      refine RS.go ?_
      refine RT.br rfl (fun c43 => ?_) (fun c43 => ?_)
      · refine RT.br rfl (fun c1 => ?_) (fun c1 => RT.none)
        refine RT.sure rfl (by simp) ?_
        refine RT.br rfl (fun c2 => ?_) (fun c2 => RT.none)
        refine RT.goto rfl ?_
        refine RS.obj 19 (bufE eI (List.replicate (wrap64 ((a1.size : Int) + 1)).toNat (0 : Int))) ⟨_, rfl, LeO.rep0 (all1 rfl)⟩ ?_
        refine RS.slot 19 (.osl 19 eI.w 0 (List.replicate (wrap64 ((a1.size : Int) + 1)).toNat (0 : Int)).length (List.replicate (wrap64 ((a1.size : Int) + 1)).toNat (0 : Int)).length) (Le.oslN rfl (by first | (simp; done) | (simp; rfl))) ?_
        refine RS.go ?_
        refine RT.req rfl (by first | exact Nat.zero_add _ | rfl | simp [szf, szOf]) ?_
        refine RT.goto rfl ?_
        refine RS.weak [(0, .str a0), (1, .str a1), (5, .ref 5 0 0 0 3), (6, .int .i64 x13), (7, .osl 19 eI.w 0 (List.replicate (wrap64 ((a1.size : Int) + 1)).toNat (0 : Int)).length (List.replicate (wrap64 ((a1.size : Int) + 1)).toNat (0 : Int)).length), (12, .int .i64 (wrap64 ((a0.size : Int) + 1))), (13, .int .i64 x13), (21, .int .i64 ((List.replicate (wrap64 ((a1.size : Int) + 1)).toNat (0 : Int)).length : Int)), (22, .int .i64 0)] [(5, .box [sq eI o5_0, sq eI o5_1, sq eI o5_2]), (19, bufE eI (List.replicate (wrap64 ((a1.size : Int) + 1)).toNat (0 : Int)))] ⟨Le.eq (by first | rfl | simp), Le.eq (by first | rfl | simp), Le.eq (by first | rfl | simp), Le.eq (by first | rfl | simp), (by first | exact Le.oslN rfl (by first | rfl | simp) | exact Le.refl _ | exact Le.eq (by first | rfl | simp)), Le.eq (by first | rfl | simp), Le.eq (by first | rfl | simp), Le.eq (by first | rfl | simp), Le.eq (by first | rfl | simp), trivial⟩ ⟨⟨_, rfl, LeO.refl _⟩, ⟨_, rfl, LeO.refl _⟩, trivial⟩ rfl (dom0 rfl) ?_
        exact ih.2.2.1 a0 a1 x13 o5_0 o5_1 o5_2 0 (List.replicate (wrap64 ((a1.size : Int) + 1)).toNat (0 : Int)) 
      · refine RT.brT rfl ?_
        refine RT.brT rfl ?_
        refine RT.br rfl (fun c41 => ?_) (fun c41 => RT.none)
        refine RT.br rfl (fun c42 => ?_) (fun c42 => RT.none)
        exact RT.done rfl rfl (Le.refl _) trivial rfl (dom0 rfl)
theorem call_Steps.ok (k : Nat) (a0 : ByteArray) (a1 : ByteArray) (r : Int) (h : call_Steps.f k a0 a1 = some r) : Ct Tryz.prog B 67 [.str a0, .str a1] (ofL []) (.int .i64 r) (ofL []) := by
  refine Ct.of (Y := (fam Tryz.f67 [16, 19, 20] [] [] (fun r : Int => .int .i64 r) (fun r => []))) Tryz.func67 rfl Tryz.call67 rfl rfl ?_ r h
  unfold call_Steps.f
  refine RS.go ?_
  refine RT.goto rfl ?_
  refine RS.obj 5 (.box [sq eI ([] : List Int), .v (.slice Option.none 0 0), .v (.slice Option.none 0 0)]) ⟨_, rfl, LeO.box (LeL.cons (Le.nil _ _) (LeL.cons (Le.refl _) (LeL.cons (Le.refl _) (LeL.nil))))⟩ ?_
  refine RS.obj 5 (.box [sq eI ([] : List Int), sq eI ([] : List Int), .v (.slice Option.none 0 0)]) ⟨_, rfl, LeO.box (LeL.cons (Le.refl _) (LeL.cons (Le.nil _ _) (LeL.cons (Le.refl _) (LeL.nil))))⟩ ?_
  refine RS.obj 5 (.box [sq eI ([] : List Int), sq eI ([] : List Int), sq eI ([] : List Int)]) ⟨_, rfl, LeO.box (LeL.cons (Le.refl _) (LeL.cons (Le.refl _) (LeL.cons (Le.nil _ _) (LeL.nil))))⟩ ?_
  refine RS.weak [(0, .str a0), (1, .str a1), (5, .ref 5 0 0 0 3), (12, .int .i64 (wrap64 ((a0.size : Int) + 1))), (13, .int .i64 0)] [(5, .box [sq eI ([] : List Int), sq eI ([] : List Int), sq eI ([] : List Int)])] ⟨Le.eq (by first | rfl | simp), Le.eq (by first | rfl | simp), Le.eq (by first | rfl | simp), Le.eq (by first | rfl | simp), Le.eq (by first | rfl | simp), trivial⟩ ⟨⟨_, rfl, LeO.refl _⟩, trivial⟩ rfl (dom0 rfl) ?_
  exact (call_Steps.loops k).2.2.2 a0 a1 0 ([] : List Int) ([] : List Int) ([] : List Int) 
/-! ### call_Distance: function 15 -/
def call_Distance.f (k : Nat) (a0 : ByteArray) (a1 : ByteArray) : Option (Int × Int) := ((call_Is.f k a0).bind fun r1 => (if r1 = true then ((call_Is.f k a1).bind fun r2 => (if r2 = true then ((call_Steps.f k a0 a1).bind fun r3 => Option.some (r3, 0)) else Option.some (0, 3))) else Option.some (0, 3)))
theorem call_Distance.ok (k : Nat) (a0 : ByteArray) (a1 : ByteArray) (r : Int × Int) (h : call_Distance.f k a0 a1 = some r) : Ct Tryz.prog B 15 [.str a0, .str a1] (ofL []) (.tup [.int .i64 r.1, .int .i64 r.2]) (ofL []) := by
  refine Ct.of (Y := (fam Tryz.f15 [] [] [] (fun r : Int × Int => .tup [.int .i64 r.1, .int .i64 r.2]) (fun r => []))) Tryz.func15 rfl Tryz.call15 rfl rfl ?_ r h
  unfold call_Distance.f
  refine RS.go ?_
  refine RT.call0 rfl (fun _ h => call_Is.ok k a0 _ h) (LeL.eq rfl) (fun _ => rfl) (fun r1 => ?_)
  refine RS.go ?_
  refine RT.brBN rfl (fun c5 => ?_) (fun c5 => ?_)
  · refine RT.brF rfl ?_
    refine RT.call0 rfl (fun _ h => call_Is.ok k a1 _ h) (LeL.eq rfl) (fun _ => rfl) (fun r2 => ?_)
    refine RS.go ?_
    refine RT.brF rfl ?_
    refine RT.brF rfl ?_
    refine RT.brBN rfl (fun c4 => ?_) (fun c4 => ?_)
    · refine RT.call0 rfl (fun _ h => call_Steps.ok k a0 a1 _ h) (LeL.eq rfl) (fun _ => rfl) (fun r3 => ?_)
      refine RS.go ?_
      exact RT.done rfl rfl (Le.tup (LeL.cons (Le.refl _) (LeL.cons (Le.refl _) (LeL.nil)))) trivial rfl (dom0 rfl)
    · exact RT.done rfl rfl (Le.tup (LeL.cons (Le.refl _) (LeL.cons (Le.refl _) (LeL.nil)))) trivial rfl (dom0 rfl)
  · refine RT.brT rfl ?_
    refine RT.brT rfl ?_
    refine RT.brT rfl ?_
    refine RT.brT rfl ?_
    exact RT.done rfl rfl (Le.tup (LeL.cons (Le.refl _) (LeL.cons (Le.refl _) (LeL.nil)))) trivial rfl (dom0 rfl)
/-! ### piletop_TopCallsAreKeyed: function 3 -/
def piletop_TopCallsAreKeyed.l0 : Nat → ByteArray → List ByteArray → Int → Int → Option (Bool)
  | 0, _, _, _, _ => Option.none
  | k + 1, x4, x69, x70, x71 => (if x71 < x70 then (if 0 ≤ x71 then (if x71 < (x69.length : Int) then ((call_Is.f k (rdE eS x69 x71)).bind fun r9 => (if r9 = true then ((call_Distance.f k x4 (rdE eS x69 x71)).bind fun r10 => (if r10.2 = 0 then (if r10.1 = 1 then piletop_TopCallsAreKeyed.l0 k x4 x69 x70 (wrap64 (x71 + 1)) else Option.some false) else Option.some false)) else piletop_TopCallsAreKeyed.l0 k x4 x69 x70 (wrap64 (x71 + 1)))) else Option.none) else Option.none) else ((piletop_h06facts.f k ).bind fun r14 => Option.some r14))
def piletop_TopCallsAreKeyed.f (k : Nat) (l0 : List Int) : Option (Bool) := ((pilemake_Stream_RightCall.f k l0 0).bind fun r1 => ((pilemake_Stream_Pick.f k r1.2.1 r1.2.2 [1, 60, 150]).bind fun r2 => ((key_Key.f k r1.1 r2.1 r2.1).bind fun r3 => ((key_With.f k r3.1 r2.1).bind fun r4 => (if r3.2 = 0 then (if r4.2.2 = 0 then (if r4.1 = r1.1 then (if r4.2.1 = 0 then (if (r1.1.size : Int) > 10 then ((piletop_h06facts.f k ).bind fun r5 => Option.some r5) else ((key_Mistaken.f k r1.1).bind fun r6 => (if r6.2 = 0 then (if (r6.1.length : Int) = 0 then Option.some false else piletop_TopCallsAreKeyed.l0 k r1.1 r6.1 (r6.1.length : Int) 0) else Option.some false))) else Option.some false) else Option.some false) else Option.some false) else Option.some false)))))
theorem piletop_TopCallsAreKeyed.loops : ∀ k, (∀ (x4 : ByteArray) (x69 : List ByteArray) (x70 : Int) (x71 : Int), RS (fam Tryz.f3 [] [] [] (fun r : Bool => .bool r) (fun r => [])) (Func.head Tryz.f3 0) ⟨ofT [(4, .str x4), (69, sq eS x69), (70, .int .i64 x70), (71, .int .i64 x71)], ofL []⟩ (piletop_TopCallsAreKeyed.l0 k x4 x69 x70 x71))
  | 0 => by intro _ _ _ _; simp only [piletop_TopCallsAreKeyed.l0]; exact RS.none
  | k + 1 => by
    have ih := piletop_TopCallsAreKeyed.loops k
    · intro x4 x69 x70 x71
      simp only [piletop_TopCallsAreKeyed.l0]
      refine RS.go ?_
      refine RT.br rfl (fun c15 => ?_) (fun c15 => ?_)
      · refine RT.br rfl (fun c7 => ?_) (fun c7 => RT.none)
        refine RT.br rfl (fun c8 => ?_) (fun c8 => RT.none)
        refine RT.call0 rfl (fun _ h => call_Is.ok k (rdE eS x69 x71) _ h) (LeL.eq rfl) (fun _ => rfl) (fun r9 => ?_)
        refine RS.go ?_
        refine RT.brBN rfl (fun c13 => ?_) (fun c13 => ?_)
        · refine RT.call0 rfl (fun _ h => call_Distance.ok k x4 (rdE eS x69 x71) _ h) (LeL.eq rfl) (fun _ => rfl) (fun r10 => ?_)
          refine RS.go ?_
          refine RT.brN rfl (fun c12 => ?_) (fun c12 => ?_)
          · refine RT.brF rfl ?_
            refine RT.brF rfl ?_
            refine RT.brN rfl (fun c11 => ?_) (fun c11 => ?_)
            · refine RT.goto rfl ?_
              refine RS.weak [(4, .str x4), (69, sq eS x69), (70, .int .i64 x70), (71, .int .i64 (wrap64 (x71 + 1)))] [] ⟨Le.eq (by first | rfl | simp), Le.eq (by first | rfl | simp), Le.eq (by first | rfl | simp), Le.eq (by first | rfl | simp), trivial⟩ trivial rfl (dom0 rfl) ?_
              exact ih x4 x69 x70 (wrap64 (x71 + 1)) 
            · exact RT.done rfl rfl (Le.refl _) trivial rfl (dom0 rfl)
          · refine RT.brT rfl ?_
            refine RT.brT rfl ?_
            refine RT.brT rfl ?_
            exact RT.done rfl rfl (Le.refl _) trivial rfl (dom0 rfl)
        · refine RT.goto rfl ?_
          refine RS.weak [(4, .str x4), (69, sq eS x69), (70, .int .i64 x70), (71, .int .i64 (wrap64 (x71 + 1)))] [] ⟨Le.eq (by first | rfl | simp), Le.eq (by first | rfl | simp), Le.eq (by first | rfl | simp), Le.eq (by first | rfl | simp), trivial⟩ trivial rfl (dom0 rfl) ?_
          exact ih x4 x69 x70 (wrap64 (x71 + 1)) 
      · refine RT.call0 rfl (fun _ h => piletop_h06facts.ok k  _ h) (LeL.eq rfl) (fun _ => rfl) (fun r14 => ?_)
        refine RS.go ?_
        exact RT.done rfl rfl (Le.refl _) trivial rfl (dom0 rfl)
theorem piletop_TopCallsAreKeyed.ok (k : Nat) (l0 : List Int) (r : Bool) (h : piletop_TopCallsAreKeyed.f k l0 = some r) : Ct Tryz.prog B 3 [sq eI l0] (ofL []) (.bool r) (ofL []) := by
  refine Ct.of (Y := (fam Tryz.f3 [] [] [] (fun r : Bool => .bool r) (fun r => []))) Tryz.func3 rfl Tryz.call3 rfl rfl ?_ r h
  unfold piletop_TopCallsAreKeyed.f
  refine RS.go ?_
  refine RT.call rfl (fun _ h => pilemake_Stream_RightCall.ok k l0 0 _ h) (fun i => bif Nat.beq i 100000 then 18 else i) (LeL.eq rfl) ⟨⟨_, rfl, LeO.refl _⟩, trivial⟩ (fun _ => rfl) (fun r1 => ?_)
  refine RS.go ?_
  refine RT.goto rfl ?_
  refine RS.slot 22 (sq eI [1, 60, 150]) (Le.lit (E := eI) (l := [1, 60, 150]) (cells_of rfl)) ?_
  refine RS.go ?_
  refine RT.call rfl (fun _ h => pilemake_Stream_Pick.ok k r1.2.1 r1.2.2 [1, 60, 150] _ h) (fun i => bif Nat.beq i 100000 then 18 else i) (LeL.eq rfl) ⟨⟨_, rfl, LeO.refl _⟩, trivial⟩ (fun _ => rfl) (fun r2 => ?_)
  refine RS.go ?_
  refine RT.call0 rfl (fun _ h => key_Key.ok k r1.1 r2.1 r2.1 _ h) (LeL.eq rfl) (fun _ => rfl) (fun r3 => ?_)
  refine RS.go ?_
  refine RT.call0 rfl (fun _ h => key_With.ok k r3.1 r2.1 _ h) (LeL.eq rfl) (fun _ => rfl) (fun r4 => ?_)
  refine RS.go ?_
  refine RT.brN rfl (fun c22 => ?_) (fun c22 => ?_)
  · refine RT.brF rfl ?_
    refine RT.brF rfl ?_
    refine RT.brN rfl (fun c21 => ?_) (fun c21 => ?_)
    · refine RT.brF rfl ?_
      refine RT.brF rfl ?_
      refine RT.brF rfl ?_
      refine RT.brN rfl (fun c20 => ?_) (fun c20 => ?_)
      · refine RT.brF rfl ?_
        refine RT.brF rfl ?_
        refine RT.brN rfl (fun c19 => ?_) (fun c19 => ?_)
        · refine RT.br rfl (fun c18 => ?_) (fun c18 => ?_)
          · refine RT.call0 rfl (fun _ h => piletop_h06facts.ok k  _ h) (LeL.eq rfl) (fun _ => rfl) (fun r5 => ?_)
            refine RS.go ?_
            exact RT.done rfl rfl (Le.refl _) trivial rfl (dom0 rfl)
          · refine RT.call0 rfl (fun _ h => key_Mistaken.ok k r1.1 _ h) (LeL.eq rfl) (fun _ => rfl) (fun r6 => ?_)
            refine RS.go ?_
            refine RT.brN rfl (fun c17 => ?_) (fun c17 => ?_)
            · refine RT.brF rfl ?_
              refine RT.brF rfl ?_
              refine RT.brF rfl ?_
              refine RT.br rfl (fun c16 => ?_) (fun c16 => ?_)
              · exact RT.done rfl rfl (Le.refl _) trivial rfl (dom0 rfl)
              · refine RT.goto rfl ?_
                refine RS.weak [(4, .str r1.1), (69, sq eS r6.1), (70, .int .i64 (r6.1.length : Int)), (71, .int .i64 0)] [] ⟨Le.eq (by first | rfl | simp), Le.eq (by first | rfl | simp), Le.eq (by first | rfl | simp), Le.eq (by first | rfl | simp), trivial⟩ trivial rfl (dom0 rfl) ?_
                exact piletop_TopCallsAreKeyed.loops k r1.1 r6.1 (r6.1.length : Int) 0 
            · refine RT.brT rfl ?_
              refine RT.brT rfl ?_
              refine RT.brT rfl ?_
              refine RT.brT rfl ?_
              exact RT.done rfl rfl (Le.refl _) trivial rfl (dom0 rfl)
        · exact RT.done rfl rfl (Le.refl _) trivial rfl (dom0 rfl)
      · refine RT.brT rfl ?_
        refine RT.brT rfl ?_
        refine RT.brT rfl ?_
        exact RT.done rfl rfl (Le.refl _) trivial rfl (dom0 rfl)
    · refine RT.brT rfl ?_
      refine RT.brT rfl ?_
      refine RT.brT rfl ?_
      refine RT.brT rfl ?_
      refine RT.brT rfl ?_
      refine RT.brT rfl ?_
      refine RT.brT rfl ?_
      exact RT.done rfl rfl (Le.refl _) trivial rfl (dom0 rfl)
  · refine RT.brT rfl ?_
    refine RT.brT rfl ?_
    refine RT.brT rfl ?_
    refine RT.brT rfl ?_
    refine RT.brT rfl ?_
    refine RT.brT rfl ?_
    refine RT.brT rfl ?_
    refine RT.brT rfl ?_
    refine RT.brT rfl ?_
    refine RT.brT rfl ?_
    exact RT.done rfl rfl (Le.refl _) trivial rfl (dom0 rfl)
end Go.EV
