/- Printed by a program of this session: a Lean function for each function that the law reaches, and that the code comes to it. -/
import Derived.Test.YtonnpocamipbiaaGreatDoorXPlacesStaya
set_option linter.unusedVariables false
set_option linter.unusedSimpArgs false
namespace Go.EV
open Go Go.Proofs Go.RowKit
set_option maxHeartbeats 4000000
set_option maxRecDepth 100000
set_option linter.unusedVariables false
/-! ### rate_Best: function 32 -/
def rate_Best.k0 : List DK := [⟨[34], [], [11], []⟩, ⟨[25], [], [10], []⟩, ⟨[26, 33], [], [34], []⟩, ⟨[28, 32], [], [33], []⟩, ⟨[30, 31], [], [32], []⟩, ⟨[2], [], [31], []⟩, ⟨[29], [4], [30], []⟩, ⟨[4], [4], [29], []⟩, ⟨[27], [4], [28], []⟩, ⟨[4], [4], [27], []⟩, ⟨[0], [], [26], []⟩, ⟨[24], [4], [25], []⟩, ⟨[4], [4], [24], []⟩]
def rate_Best.k1 : List Nat := [0, 1, 0, 0, 8, 0, 32, 0, 224, 504, 1020, 2047, 4095]
mutual
def rate_Best.j13 : Nat → List Int → Int → Int → Int → Int → Option (Int × Int × Int)
  | 0, _, _, _, _, _ => Option.none
  | k + 1, l0, a2, x37, x10j13, x11j13 => rate_Best.l0 k l0 a2 x10j13 x11j13 (wrap64 (x37 + 1))
def rate_Best.l0 : Nat → List Int → Int → Int → Int → Int → Option (Int × Int × Int)
  | 0, _, _, _, _, _ => Option.none
  | k + 1, l0, a2, x10, x11, x37 => (if x37 < (l0.length : Int) then (if 0 ≤ x37 then (if x37 < (l0.length : Int) then ((rate_in.f k l0 (rd l0 x37) (wrap64 ((rd l0 x37) + a2))).bind fun r6 => (if r6 > x11 then rate_Best.j13 k l0 a2 x37 (rd l0 x37) r6 else rate_Best.j13 k l0 a2 x37 x10 x11)) else Option.none) else Option.none) else Option.some (x10, x11, 0))
end
def rate_Best.f (k : Nat) (l0 : List Int) (a1_0 : Int) (a1_1 : Int) (a2 : Int) : Option (Int × Int × Int) := ((rate_CheckTimes.f k l0 a1_0 a1_1).bind fun r1 => (if r1 = 0 then ((rate_isLong.f a2).bind fun r2 => (if r2 = true then ((rate_in.f k l0 a1_0 (wrap64 (a1_0 + a2))).bind fun r3 => rate_Best.l0 k l0 a2 a1_0 r3 0) else Option.some (0, 0, 1))) else Option.some (0, 0, r1)))
theorem rate_Best.loops : ∀ k, (∀ (l0 : List Int) (a2 : Int) (x37 : Int) (x10j13 : Int) (x11j13 : Int), RS (fam Tryz.f32 [13] [] [] (fun r : Int × Int × Int => .tup [.int .i64 r.1, .int .i64 r.2.1, .int .i64 r.2.2]) (fun r => [])) (Func.reg Tryz.f32 13) ⟨ofT [(0, sq eI l0), (2, .int .i64 a2), (10, .int .i64 x10j13), (11, .int .i64 x11j13), (35, sq eI l0), (36, .int .i64 (l0.length : Int)), (37, .int .i64 x37)], ofL []⟩ (rate_Best.j13 k l0 a2 x37 x10j13 x11j13)) ∧ (∀ (l0 : List Int) (a2 : Int) (x10 : Int) (x11 : Int) (x37 : Int), RS (fam Tryz.f32 [13] [] [] (fun r : Int × Int × Int => .tup [.int .i64 r.1, .int .i64 r.2.1, .int .i64 r.2.2]) (fun r => [])) (Func.head Tryz.f32 0) ⟨ofT [(0, sq eI l0), (2, .int .i64 a2), (10, .int .i64 x10), (11, .int .i64 x11), (35, sq eI l0), (36, .int .i64 (l0.length : Int)), (37, .int .i64 x37)], ofL []⟩ (rate_Best.l0 k l0 a2 x10 x11 x37))
  | 0 => ⟨by intro _ _ _ _ _; simp only [rate_Best.j13]; exact RS.none, by intro _ _ _ _ _; simp only [rate_Best.l0]; exact RS.none⟩
  | k + 1 => by
    have ih := rate_Best.loops k
    refine ⟨?_, ?_⟩
    · intro l0 a2 x37 x10j13 x11j13
      simp only [rate_Best.j13]
      refine RS.region ?_
      refine RS.go ?_
      refine RT.goto rfl ?_
      refine RS.weak [(0, sq eI l0), (2, .int .i64 a2), (10, .int .i64 x10j13), (11, .int .i64 x11j13), (35, sq eI l0), (36, .int .i64 (l0.length : Int)), (37, .int .i64 (wrap64 (x37 + 1)))] [] ⟨Le.eq (by first | rfl | simp), Le.eq (by first | rfl | simp), Le.eq (by first | rfl | simp), Le.eq (by first | rfl | simp), Le.eq (by first | rfl | simp), Le.eq (by first | rfl | simp), Le.eq (by first | rfl | simp), trivial⟩ trivial rfl (dom0 rfl) ?_
      exact ih.2 l0 a2 x10j13 x11j13 (wrap64 (x37 + 1)) 
    · intro l0 a2 x10 x11 x37
      simp only [rate_Best.l0]
      refine RS.go ?_
      refine RT.br rfl (fun c8 => ?_) (fun c8 => ?_)
      · refine RT.br rfl (fun c4 => ?_) (fun c4 => RT.none)
        refine RT.br rfl (fun c5 => ?_) (fun c5 => RT.none)
        refine RT.call0 rfl (fun _ h => rate_in.ok k l0 (rd l0 x37) (wrap64 ((rd l0 x37) + a2)) _ h) (LeL.eq rfl) (fun _ => rfl) (fun r6 => ?_)
        refine RS.go ?_
        refine RT.br rfl (fun c7 => ?_) (fun c7 => ?_)
        · refine RT.goto rfl ?_
          refine RS.weak [(0, sq eI l0), (2, .int .i64 a2), (10, .int .i64 (rd l0 x37)), (11, .int .i64 r6), (35, sq eI l0), (36, .int .i64 (l0.length : Int)), (37, .int .i64 x37)] [] ⟨Le.eq (by first | rfl | simp), Le.eq (by first | rfl | simp), Le.eq (by first | rfl | simp), Le.eq (by first | rfl | simp), Le.eq (by first | rfl | simp), Le.eq (by first | rfl | simp), Le.eq (by first | rfl | simp), trivial⟩ trivial rfl (dom0 rfl) ?_
          exact ih.1 l0 a2 x37 (rd l0 x37) r6 
        · refine RT.goto rfl ?_
          refine RS.weak [(0, sq eI l0), (2, .int .i64 a2), (10, .int .i64 x10), (11, .int .i64 x11), (35, sq eI l0), (36, .int .i64 (l0.length : Int)), (37, .int .i64 x37)] [] ⟨Le.eq (by first | rfl | simp), Le.eq (by first | rfl | simp), Le.eq (by first | rfl | simp), Le.eq (by first | rfl | simp), Le.eq (by first | rfl | simp), Le.eq (by first | rfl | simp), Le.eq (by first | rfl | simp), trivial⟩ trivial rfl (dom0 rfl) ?_
          exact ih.1 l0 a2 x37 x10 x11 
      · exact RT.done rfl rfl (Le.tup (LeL.cons (Le.refl _) (LeL.cons (Le.refl _) (LeL.cons (Le.refl _) (LeL.nil))))) trivial rfl (dom0 rfl)
theorem rate_Best.ok (k : Nat) (l0 : List Int) (a1_0 : Int) (a1_1 : Int) (a2 : Int) (r : Int × Int × Int) (h : rate_Best.f k l0 a1_0 a1_1 a2 = some r) : Ct Tryz.prog B 32 [sq eI l0, .agg [.int .i64 a1_0, .int .i64 a1_1], .int .i64 a2] (ofL []) (.tup [.int .i64 r.1, .int .i64 r.2.1, .int .i64 r.2.2]) (ofL []) := by
  refine Ct.of (Y := (fam Tryz.f32 [13] [] [] (fun r : Int × Int × Int => .tup [.int .i64 r.1, .int .i64 r.2.1, .int .i64 r.2.2]) (fun r => []))) Tryz.func32 rfl Tryz.call32 rfl rfl ?_ r h
  unfold rate_Best.f
  refine RS.go ?_
  refine RT.call0 rfl (fun _ h => rate_CheckTimes.ok k l0 a1_0 a1_1 _ h) (LeL.eq rfl) (fun _ => rfl) (fun r1 => ?_)
  refine RS.go ?_
  refine RT.brN rfl (fun c10 => ?_) (fun c10 => ?_)
  · refine RT.call0 rfl (fun _ h => rate_isLong.ok a2 _ h) (LeL.eq rfl) (fun _ => rfl) (fun r2 => ?_)
    refine RS.go ?_
    refine RT.brBN rfl (fun c9 => ?_) (fun c9 => ?_)
    · refine RT.goto rfl ?_
      refine RS.draw rfl ?_
      refine RD.call (CR := []) (CW := (fun r => [])) rfl (fun _ h => rate_in.ok k l0 a1_0 (wrap64 (a1_0 + a2)) _ h) (fun i => i) trivial (fun _ => rfl) ⟨_, _, _, _, rfl, rfl, rfl⟩ (LeL.eq rfl) trivial (fun _ => rfl) (fun r3 => ?_)
      refine RD.fin rate_Best.k0 rate_Best.k1 rfl rfl (by decide +kernel) ?_
      refine RS.go ?_
      refine RT.goto rfl ?_
      refine RS.weak [(0, sq eI l0), (2, .int .i64 a2), (10, .int .i64 a1_0), (11, .int .i64 r3), (35, sq eI l0), (36, .int .i64 (l0.length : Int)), (37, .int .i64 0)] [] ⟨Le.eq (by first | rfl | simp), Le.eq (by first | rfl | simp), Le.eq (by first | rfl | simp), Le.eq (by first | rfl | simp), Le.eq (by first | rfl | simp), Le.eq (by first | rfl | simp), Le.eq (by first | rfl | simp), trivial⟩ trivial rfl (dom0 rfl) ?_
      exact (rate_Best.loops k).2 l0 a2 a1_0 r3 0 
    · exact RT.done rfl rfl (Le.tup (LeL.cons (Le.refl _) (LeL.cons (Le.refl _) (LeL.cons (Le.refl _) (LeL.nil))))) trivial rfl (dom0 rfl)
  · exact RT.done rfl rfl (Le.tup (LeL.cons (Le.refl _) (LeL.cons (Le.refl _) (LeL.cons (Le.refl _) (LeL.nil))))) trivial rfl (dom0 rfl)
/-! ### pilekeep1_ready: function 10 -/
def pilekeep1_ready.f (k : Nat) : Option (Bool) := ((call_Apart.f k (⟨#[111, 104, 50, 97, 98, 99, 47, 52]⟩ : ByteArray)).bind fun r1 => ((place_Cosine.f k 216000).bind fun r2 => ((key_Units.f k (⟨#[112, 97, 114, 105, 115]⟩ : ByteArray)).bind fun r3 => ((rate_Best.f k [0, 600000, 1200000] 0 3600000 900000).bind fun r4 => (if r1.2.2.2.2.2 = 0 then (if r1.2.1 = (⟨#[111, 104, 50]⟩ : ByteArray) then (if r2.2 = 0 then (if r2.1 = 500000 then (if r3.2 = 0 then (if r3.1 = 43 then (if r4.2.2 = 0 then (if r4.1 = 0 then Option.some (decide (r4.2.1 = 2)) else Option.some false) else Option.some false) else Option.some false) else Option.some false) else Option.some false) else Option.some false) else Option.some false) else Option.some false)))))
theorem pilekeep1_ready.ok (k : Nat) (r : Bool) (h : pilekeep1_ready.f k  = some r) : Ct Tryz.prog B 10 [] (ofL []) (.bool r) (ofL []) := by
  refine Ct.of (Y := (fam Tryz.f10 [] [] [] (fun r : Bool => .bool r) (fun r => []))) Tryz.func10 rfl Tryz.call10 rfl rfl ?_ r h
  unfold pilekeep1_ready.f
  refine RS.go ?_
  refine RT.call0 rfl (fun _ h => call_Apart.ok k (⟨#[111, 104, 50, 97, 98, 99, 47, 52]⟩ : ByteArray) _ h) (LeL.eq rfl) (fun _ => rfl) (fun r1 => ?_)
  refine RS.go ?_
  refine RT.call0 rfl (fun _ h => place_Cosine.ok k 216000 _ h) (LeL.eq rfl) (fun _ => rfl) (fun r2 => ?_)
  refine RS.go ?_
  refine RT.call0 rfl (fun _ h => key_Units.ok k (⟨#[112, 97, 114, 105, 115]⟩ : ByteArray) _ h) (LeL.eq rfl) (fun _ => rfl) (fun r3 => ?_)
  refine RS.go ?_
  refine RT.goto rfl ?_
  refine RS.slot 23 (sq eI [0, 600000, 1200000]) (Le.lit (E := eI) (l := [0, 600000, 1200000]) (cells_of rfl)) ?_
  refine RS.go ?_
  refine RT.call0 rfl (fun _ h => rate_Best.ok k [0, 600000, 1200000] 0 3600000 900000 _ h) (LeL.eq rfl) (fun _ => rfl) (fun r4 => ?_)
  refine RS.go ?_
  refine RT.br rfl (fun c12 => ?_) (fun c12 => ?_)
  · refine RT.brT rfl ?_
    refine RT.brT rfl ?_
    refine RT.brT rfl ?_
    refine RT.br rfl (fun c11 => ?_) (fun c11 => ?_)
    · refine RT.brT rfl ?_
      refine RT.brT rfl ?_
      refine RT.br rfl (fun c10 => ?_) (fun c10 => ?_)
      · refine RT.brT rfl ?_
        refine RT.brT rfl ?_
        refine RT.br rfl (fun c9 => ?_) (fun c9 => ?_)
        · refine RT.brT rfl ?_
          refine RT.brT rfl ?_
          refine RT.br rfl (fun c8 => ?_) (fun c8 => ?_)
          · refine RT.brT rfl ?_
            refine RT.brT rfl ?_
            refine RT.br rfl (fun c7 => ?_) (fun c7 => ?_)
            · refine RT.brT rfl ?_
              refine RT.brT rfl ?_
              refine RT.br rfl (fun c6 => ?_) (fun c6 => ?_)
              · refine RT.brT rfl ?_
                refine RT.brT rfl ?_
                refine RT.br rfl (fun c5 => ?_) (fun c5 => ?_)
                · refine RT.brT rfl ?_
                  refine RT.brT rfl ?_
                  exact RT.done rfl rfl (Le.refl _) trivial rfl (dom0 rfl)
                · refine RT.brF rfl ?_
                  refine RT.brF rfl ?_
                  exact RT.done rfl rfl (Le.refl _) trivial rfl (dom0 rfl)
              · refine RT.brF rfl ?_
                refine RT.brF rfl ?_
                refine RT.brF rfl ?_
                refine RT.brF rfl ?_
                refine RT.brF rfl ?_
                exact RT.done rfl rfl (Le.refl _) trivial rfl (dom0 rfl)
            · refine RT.brF rfl ?_
              refine RT.brF rfl ?_
              refine RT.brF rfl ?_
              refine RT.brF rfl ?_
              refine RT.brF rfl ?_
              refine RT.brF rfl ?_
              refine RT.brF rfl ?_
              refine RT.brF rfl ?_
              exact RT.done rfl rfl (Le.refl _) trivial rfl (dom0 rfl)
          · refine RT.brF rfl ?_
            refine RT.brF rfl ?_
            refine RT.brF rfl ?_
            refine RT.brF rfl ?_
            refine RT.brF rfl ?_
            refine RT.brF rfl ?_
            refine RT.brF rfl ?_
            refine RT.brF rfl ?_
            refine RT.brF rfl ?_
            refine RT.brF rfl ?_
            refine RT.brF rfl ?_
            exact RT.done rfl rfl (Le.refl _) trivial rfl (dom0 rfl)
        · refine RT.brF rfl ?_
          refine RT.brF rfl ?_
          refine RT.brF rfl ?_
          refine RT.brF rfl ?_
          refine RT.brF rfl ?_
          refine RT.brF rfl ?_
          refine RT.brF rfl ?_
          refine RT.brF rfl ?_
          refine RT.brF rfl ?_
          refine RT.brF rfl ?_
          refine RT.brF rfl ?_
          refine RT.brF rfl ?_
          refine RT.brF rfl ?_
          refine RT.brF rfl ?_
          exact RT.done rfl rfl (Le.refl _) trivial rfl (dom0 rfl)
      · refine RT.brF rfl ?_
        refine RT.brF rfl ?_
        refine RT.brF rfl ?_
        refine RT.brF rfl ?_
        refine RT.brF rfl ?_
        refine RT.brF rfl ?_
        refine RT.brF rfl ?_
        refine RT.brF rfl ?_
        refine RT.brF rfl ?_
        refine RT.brF rfl ?_
        refine RT.brF rfl ?_
        refine RT.brF rfl ?_
        refine RT.brF rfl ?_
        refine RT.brF rfl ?_
        refine RT.brF rfl ?_
        refine RT.brF rfl ?_
        refine RT.brF rfl ?_
        exact RT.done rfl rfl (Le.refl _) trivial rfl (dom0 rfl)
    · refine RT.brF rfl ?_
      refine RT.brF rfl ?_
      refine RT.brF rfl ?_
      refine RT.brF rfl ?_
      refine RT.brF rfl ?_
      refine RT.brF rfl ?_
      refine RT.brF rfl ?_
      refine RT.brF rfl ?_
      refine RT.brF rfl ?_
      refine RT.brF rfl ?_
      refine RT.brF rfl ?_
      refine RT.brF rfl ?_
      refine RT.brF rfl ?_
      refine RT.brF rfl ?_
      refine RT.brF rfl ?_
      refine RT.brF rfl ?_
      refine RT.brF rfl ?_
      refine RT.brF rfl ?_
      refine RT.brF rfl ?_
      refine RT.brF rfl ?_
      exact RT.done rfl rfl (Le.refl _) trivial rfl (dom0 rfl)
  · refine RT.brF rfl ?_
    refine RT.brF rfl ?_
    refine RT.brF rfl ?_
    refine RT.brF rfl ?_
    refine RT.brF rfl ?_
    refine RT.brF rfl ?_
    refine RT.brF rfl ?_
    refine RT.brF rfl ?_
    refine RT.brF rfl ?_
    refine RT.brF rfl ?_
    refine RT.brF rfl ?_
    refine RT.brF rfl ?_
    refine RT.brF rfl ?_
    refine RT.brF rfl ?_
    refine RT.brF rfl ?_
    refine RT.brF rfl ?_
    refine RT.brF rfl ?_
    refine RT.brF rfl ?_
    refine RT.brF rfl ?_
    refine RT.brF rfl ?_
    refine RT.brF rfl ?_
    refine RT.brF rfl ?_
    refine RT.brF rfl ?_
    refine RT.brF rfl ?_
    exact RT.done rfl rfl (Le.refl _) trivial rfl (dom0 rfl)
/-! ### pilekeep1_PlacesStay: function 4 -/
def pilekeep1_PlacesStay.k0 : List DK := [⟨[101], [], [2], []⟩, ⟨[99, 100], [], [101], []⟩, ⟨[99], [], [100], []⟩, ⟨[98], [], [99], []⟩, ⟨[94, 97], [], [98], []⟩, ⟨[94, 95, 96], [], [97], []⟩, ⟨[94, 6], [], [96], []⟩, ⟨[94, 5], [], [95], []⟩, ⟨[93], [], [94], []⟩, ⟨[87, 92], [], [93], []⟩, ⟨[87, 90, 91], [], [92], []⟩, ⟨[87, 7], [7], [91], []⟩, ⟨[87, 89], [82], [90], []⟩, ⟨[87, 88], [82], [89], []⟩, ⟨[87, 16], [], [88], []⟩, ⟨[86], [], [87], []⟩, ⟨[85], [], [86], []⟩, ⟨[15], [], [85], []⟩]
def pilekeep1_PlacesStay.k1 : List Nat := [0, 1, 3, 7, 15, 31, 7, 127, 255, 511, 1023, 1023, 4095, 8191, 16383, 32767, 65535, 131071]
def pilekeep1_PlacesStay.k2 : List DK := [⟨[101], [], [2], []⟩, ⟨[99, 100], [], [101], []⟩, ⟨[99], [], [100], []⟩, ⟨[98], [], [99], []⟩, ⟨[94, 97], [], [98], []⟩, ⟨[94], [], [97], []⟩, ⟨[94], [], [96], []⟩, ⟨[94], [], [95], []⟩, ⟨[93], [], [94], []⟩, ⟨[87, 92], [], [93], []⟩, ⟨[87, 90, 91], [], [92], []⟩, ⟨[87, 7], [7], [91], []⟩, ⟨[87, 89], [82], [90], []⟩, ⟨[87, 88], [82], [89], []⟩, ⟨[87, 16], [], [88], []⟩, ⟨[86], [], [87], []⟩, ⟨[85], [], [86], []⟩, ⟨[15], [], [85], []⟩]
def pilekeep1_PlacesStay.k3 : List DK := [⟨[101], [], [2], []⟩, ⟨[99, 100], [], [101], []⟩, ⟨[99], [], [100], []⟩, ⟨[98], [], [99], []⟩, ⟨[94, 97], [], [98], []⟩, ⟨[94], [], [97], []⟩, ⟨[94], [], [96], []⟩, ⟨[94], [], [95], []⟩, ⟨[93], [], [94], []⟩, ⟨[87, 92], [], [93], []⟩, ⟨[87], [], [92], []⟩, ⟨[87], [], [91], []⟩, ⟨[87], [], [90], []⟩, ⟨[87], [], [89], []⟩, ⟨[87], [], [88], []⟩, ⟨[86], [], [87], []⟩, ⟨[85], [], [86], []⟩, ⟨[15], [], [85], []⟩]
mutual
def pilekeep1_PlacesStay.j11 : Nat → List ByteArray → List ByteArray → Int → Int → Option (Bool)
  | 0, _, _, _, _ => Option.none
  | k + 1, x5j11, x6j11, o7_0j11, o7_1j11 => ((place_Farthest.f k (⟨#[106, 110, 53, 56]⟩ : ByteArray) x5j11).bind fun r7 => (if r7.2.2 = 0 then ((place_Way.f k o7_0j11 o7_1j11 o7_0j11 o7_1j11 3).bind fun r33 => (if r33.2 = 0 then (if (r33.1.length : Int) = 4 then (if 0 < (r33.1.length : Int) then ((place_Way.f k o7_0j11 o7_1j11 o7_0j11 o7_1j11 3).bind fun r35 => (if r35.2 = 0 then (if 0 < (r35.1.length : Int) then (if (decide ((rdE e_II r35.1 0).1 = o7_0j11) && (decide ((rdE e_II r35.1 0).2 = o7_1j11) && true)) = true then ((slices_Equal_string_string.f k x5j11 x6j11).bind fun r37 => (if r37 = true then ((pilekeep1_ready.f k ).bind fun r38 => Option.some r38) else Option.some false)) else Option.some false) else Option.none) else Option.some false)) else Option.none) else Option.some false) else Option.some false)) else (if (x6j11.length : Int) > 0 then ((pileref1_LocatorsFault.f k x6j11).bind fun r8 => (if r8 = 0 then Option.some false else ((place_Way.f k o7_0j11 o7_1j11 o7_0j11 o7_1j11 3).bind fun r9 => (if r9.2 = 0 then (if (r9.1.length : Int) = 4 then (if 0 < (r9.1.length : Int) then ((place_Way.f k o7_0j11 o7_1j11 o7_0j11 o7_1j11 3).bind fun r11 => (if r11.2 = 0 then (if 0 < (r11.1.length : Int) then (if (decide ((rdE e_II r11.1 0).1 = o7_0j11) && (decide ((rdE e_II r11.1 0).2 = o7_1j11) && true)) = true then ((slices_Equal_string_string.f k x5j11 x6j11).bind fun r13 => (if r13 = true then ((pilekeep1_ready.f k ).bind fun r14 => Option.some r14) else Option.some false)) else Option.some false) else Option.none) else Option.some false)) else Option.none) else Option.some false) else Option.some false)))) else ((place_Way.f k o7_0j11 o7_1j11 o7_0j11 o7_1j11 3).bind fun r21 => (if r21.2 = 0 then (if (r21.1.length : Int) = 4 then (if 0 < (r21.1.length : Int) then ((place_Way.f k o7_0j11 o7_1j11 o7_0j11 o7_1j11 3).bind fun r23 => (if r23.2 = 0 then (if 0 < (r23.1.length : Int) then (if (decide ((rdE e_II r23.1 0).1 = o7_0j11) && (decide ((rdE e_II r23.1 0).2 = o7_1j11) && true)) = true then ((slices_Equal_string_string.f k x5j11 x6j11).bind fun r25 => (if r25 = true then ((pilekeep1_ready.f k ).bind fun r26 => Option.some r26) else Option.some false)) else Option.some false) else Option.none) else Option.some false)) else Option.none) else Option.some false) else Option.some false)))))
def pilekeep1_PlacesStay.l0 : Nat → List ByteArray → List ByteArray → Int → Int → Int → Int → List ByteArray → Option (Bool)
  | 0, _, _, _, _, _, _, _ => Option.none
  | k + 1, x5, x6, x37, x38, o7_0, o7_1, o31 => (if x38 < x37 then (if 0 ≤ x38 then (if x38 < (o31.length : Int) then pilekeep1_PlacesStay.l0 k x5 x6 x37 (wrap64 (x38 + 1)) o7_0 o7_1 (o31.set (x38).toNat (⟨#[115, 112, 111, 105, 108, 116]⟩ : ByteArray)) else Option.none) else Option.none) else pilekeep1_PlacesStay.j11 k x5 x6 o7_0 o7_1)
end
def pilekeep1_PlacesStay.f (k : Nat) (l0 : List Int) : Option (Bool) := ((pilemake_Stream_LocatorList.f k l0 0 6).bind fun r1 => ((pilemake_Stream_LocatorList.f k l0 0 6).bind fun r2 => ((pilemake_Stream_RightSite.f k r1.2.1 r1.2.2).bind fun r3 => ((place_Squares.f k r1.1).bind fun r4 => (if r4.2 = 0 then pilekeep1_PlacesStay.l0 k r1.1 r2.1 (r4.1.length : Int) 0 r3.1 r3.2.1 r4.1 else pilekeep1_PlacesStay.j11 k r1.1 r2.1 r3.1 r3.2.1)))))
theorem pilekeep1_PlacesStay.loops : ∀ k, (∀ (x5j11 : List ByteArray) (x6j11 : List ByteArray) (o7_0j11 : Int) (o7_1j11 : Int), RS (fam Tryz.f4 [11] [] [] (fun r : Bool => .bool r) (fun r => [])) (Func.reg Tryz.f4 11) ⟨ofT [(5, sq eS x5j11), (6, sq eS x6j11), (7, .ref 7 0 0 0 2)], ofL [(7, .box [.int .i64 o7_0j11, .int .i64 o7_1j11])]⟩ (pilekeep1_PlacesStay.j11 k x5j11 x6j11 o7_0j11 o7_1j11)) ∧ (∀ (x5 : List ByteArray) (x6 : List ByteArray) (x37 : Int) (x38 : Int) (o7_0 : Int) (o7_1 : Int) (o31 : List ByteArray), RS (fam Tryz.f4 [11] [] [] (fun r : Bool => .bool r) (fun r => [])) (Func.head Tryz.f4 0) ⟨ofT [(5, sq eS x5), (6, sq eS x6), (7, .ref 7 0 0 0 2), (8, .osl 31 eS.w 0 o31.length o31.length), (37, .int .i64 x37), (38, .int .i64 x38)], ofL [(7, .box [.int .i64 o7_0, .int .i64 o7_1]), (31, bufE eS o31)]⟩ (pilekeep1_PlacesStay.l0 k x5 x6 x37 x38 o7_0 o7_1 o31))
  | 0 => ⟨by intro _ _ _ _; simp only [pilekeep1_PlacesStay.j11]; exact RS.none, by intro _ _ _ _ _ _ _; simp only [pilekeep1_PlacesStay.l0]; exact RS.none⟩
  | k + 1 => by
    have ih := pilekeep1_PlacesStay.loops k
    refine ⟨?_, ?_⟩
    · intro x5j11 x6j11 o7_0j11 o7_1j11
      simp only [pilekeep1_PlacesStay.j11]
      refine RS.region ?_
      refine RS.go ?_
      refine RT.call0 rfl (fun _ h => place_Farthest.ok k (⟨#[106, 110, 53, 56]⟩ : ByteArray) x5j11 _ h) (LeL.eq rfl) (fun _ => rfl) (fun r7 => ?_)
      refine RS.go ?_
      refine RT.brN rfl (fun c44 => ?_) (fun c44 => ?_)
      · refine RT.brF rfl ?_
        refine RT.brF rfl ?_
        refine RT.brF rfl ?_
        refine RT.brF rfl ?_
        refine RT.brF rfl ?_
        refine RT.brF rfl ?_
        refine RT.brF rfl ?_
        refine RT.brF rfl ?_
        refine RT.call rfl (fun _ h => place_Way.ok k o7_0j11 o7_1j11 o7_0j11 o7_1j11 3 _ h) (fun i => bif Nat.beq i 11 then 66 else i) (LeL.eq rfl) trivial (fun _ => rfl) (fun r33 => ?_)
        refine RS.go ?_
        refine RT.brN rfl (fun c43 => ?_) (fun c43 => ?_)
        · refine RT.brF rfl ?_
          refine RT.req rfl (by first | exact Nat.zero_add _ | rfl | simp [szf, szOf]) ?_
          refine RT.brF rfl ?_
          refine RT.brF rfl ?_
          refine RT.brN rfl (fun c42 => ?_) (fun c42 => ?_)
          · refine RT.req rfl (by first | exact Nat.zero_add _ | rfl | simp) ?_
            refine RT.brT rfl ?_
            refine RT.br rfl (fun c34 => ?_) (fun c34 => RT.none)
            refine RT.req rfl (by first | rfl | simp) ?_
            refine RT.req rfl ⟨by first | rfl | simp, elt_lt (by decide) (by first | exact c34 | simpa using c34)⟩ ?_
            refine RT.goto rfl ?_
            refine RS.obj 66 (bufE e_II (r33.1.set 0 (777, (rdE e_II r33.1 0).2))) ⟨_, rfl, LeO.setE (by decide) (by first | exact c34 | simpa using c34) (all2 rfl rfl)⟩ ?_
            refine RS.go ?_
            refine RT.call rfl (fun _ h => place_Way.ok k o7_0j11 o7_1j11 o7_0j11 o7_1j11 3 _ h) (fun i => bif Nat.beq i 11 then 82 else i) (LeL.eq rfl) trivial (fun _ => rfl) (fun r35 => ?_)
            refine RS.go ?_
            refine RT.goto rfl ?_
            refine RS.draw rfl ?_
            refine RD.br rfl (fun c41 => ?_) (fun c41 => ?_)
            · refine RD.brT rfl ?_
              refine RD.req rfl (by first | exact Nat.zero_add _ | rfl | simp) ?_
              refine RD.brT rfl ?_
              refine RD.br rfl (fun c36 => ?_) (fun c36 => RD.none)
              refine RD.brT rfl ?_
              refine RD.req rfl ⟨by first | rfl | simp, elt_lt (by decide) (by first | exact c36 | simpa using c36)⟩ ?_
              refine RD.brT rfl ?_
              refine RD.brT rfl ?_
              refine RD.brT rfl ?_
              refine RD.brB rfl (fun c40 => ?_) (fun c40 => ?_)
              · refine RD.brT rfl ?_
                refine RD.brT rfl ?_
                refine RD.call (CR := []) (CW := (fun r => [])) rfl (fun _ h => slices_Equal_string_string.ok k x5j11 x6j11 _ h) (fun i => i) trivial (fun _ => rfl) ⟨_, _, _, _, rfl, rfl, rfl⟩ (LeL.eq rfl) trivial (fun _ => rfl) (fun r37 => ?_)
                refine RD.brT rfl ?_
                refine RD.brB rfl (fun c39 => ?_) (fun c39 => ?_)
                · refine RD.call (CR := []) (CW := (fun r => [])) rfl (fun _ h => pilekeep1_ready.ok k  _ h) (fun i => i) trivial (fun _ => rfl) ⟨_, _, _, _, rfl, rfl, rfl⟩ (LeL.eq rfl) trivial (fun _ => rfl) (fun r38 => ?_)
                  refine RD.brT rfl ?_
                  refine RD.fin pilekeep1_PlacesStay.k0 pilekeep1_PlacesStay.k1 rfl rfl (by decide +kernel) ?_
                  refine RS.go ?_
                  exact RT.done rfl rfl (Le.refl _) trivial rfl (dom0 rfl)
                · refine RD.brF rfl ?_
                  refine RD.fin pilekeep1_PlacesStay.k0 pilekeep1_PlacesStay.k1 rfl rfl (by decide +kernel) ?_
                  refine RS.go ?_
                  exact RT.done rfl rfl (Le.refl _) trivial rfl (dom0 rfl)
              · refine RD.brF rfl ?_
                refine RD.brF rfl ?_
                refine RD.brF rfl ?_
                refine RD.brF rfl ?_
                refine RD.brF rfl ?_
                refine RD.fin pilekeep1_PlacesStay.k2 pilekeep1_PlacesStay.k1 rfl rfl (by decide +kernel) ?_
                refine RS.go ?_
                exact RT.done rfl rfl (Le.refl _) trivial rfl (dom0 rfl)
            · refine RD.brF rfl ?_
              refine RD.brF rfl ?_
              refine RD.brF rfl ?_
              refine RD.brF rfl ?_
              refine RD.brF rfl ?_
              refine RD.brF rfl ?_
              refine RD.brF rfl ?_
              refine RD.brF rfl ?_
              refine RD.brF rfl ?_
              refine RD.brF rfl ?_
              refine RD.brF rfl ?_
              refine RD.fin pilekeep1_PlacesStay.k3 pilekeep1_PlacesStay.k1 rfl rfl (by decide +kernel) ?_
              refine RS.go ?_
              exact RT.done rfl rfl (Le.refl _) trivial rfl (dom0 rfl)
          · exact RT.done rfl rfl (Le.refl _) trivial rfl (dom0 rfl)
        · refine RT.brT rfl ?_
          refine RT.brT rfl ?_
          refine RT.brT rfl ?_
          refine RT.brT rfl ?_
          exact RT.done rfl rfl (Le.refl _) trivial rfl (dom0 rfl)
      · refine RT.brT rfl ?_
        refine RT.brT rfl ?_
        refine RT.brT rfl ?_
        refine RT.br rfl (fun c32 => ?_) (fun c32 => ?_)
        · refine RT.brT rfl ?_
          refine RT.call0 rfl (fun _ h => pileref1_LocatorsFault.ok k x6j11 _ h) (LeL.eq rfl) (fun _ => rfl) (fun r8 => ?_)
          refine RS.go ?_
          refine RT.brT rfl ?_
          refine RT.brT rfl ?_
          refine RT.br rfl (fun c20 => ?_) (fun c20 => ?_)
          · exact RT.done rfl rfl (Le.refl _) trivial rfl (dom0 rfl)
          · refine RT.call rfl (fun _ h => place_Way.ok k o7_0j11 o7_1j11 o7_0j11 o7_1j11 3 _ h) (fun i => bif Nat.beq i 11 then 66 else i) (LeL.eq rfl) trivial (fun _ => rfl) (fun r9 => ?_)
            refine RS.go ?_
            refine RT.brN rfl (fun c19 => ?_) (fun c19 => ?_)
            · refine RT.brF rfl ?_
              refine RT.req rfl (by first | exact Nat.zero_add _ | rfl | simp [szf, szOf]) ?_
              refine RT.brF rfl ?_
              refine RT.brF rfl ?_
              refine RT.brN rfl (fun c18 => ?_) (fun c18 => ?_)
              · refine RT.req rfl (by first | exact Nat.zero_add _ | rfl | simp) ?_
                refine RT.brT rfl ?_
                refine RT.br rfl (fun c10 => ?_) (fun c10 => RT.none)
                refine RT.req rfl (by first | rfl | simp) ?_
                refine RT.req rfl ⟨by first | rfl | simp, elt_lt (by decide) (by first | exact c10 | simpa using c10)⟩ ?_
                refine RT.goto rfl ?_
                refine RS.obj 66 (bufE e_II (r9.1.set 0 (777, (rdE e_II r9.1 0).2))) ⟨_, rfl, LeO.setE (by decide) (by first | exact c10 | simpa using c10) (all2 rfl rfl)⟩ ?_
                refine RS.go ?_
                refine RT.call rfl (fun _ h => place_Way.ok k o7_0j11 o7_1j11 o7_0j11 o7_1j11 3 _ h) (fun i => bif Nat.beq i 11 then 82 else i) (LeL.eq rfl) trivial (fun _ => rfl) (fun r11 => ?_)
                refine RS.go ?_
                refine RT.goto rfl ?_
                refine RS.draw rfl ?_
                refine RD.br rfl (fun c17 => ?_) (fun c17 => ?_)
                · refine RD.brT rfl ?_
                  refine RD.req rfl (by first | exact Nat.zero_add _ | rfl | simp) ?_
                  refine RD.brT rfl ?_
                  refine RD.br rfl (fun c12 => ?_) (fun c12 => RD.none)
                  refine RD.brT rfl ?_
                  refine RD.req rfl ⟨by first | rfl | simp, elt_lt (by decide) (by first | exact c12 | simpa using c12)⟩ ?_
                  refine RD.brT rfl ?_
                  refine RD.brT rfl ?_
                  refine RD.brT rfl ?_
                  refine RD.brB rfl (fun c16 => ?_) (fun c16 => ?_)
                  · refine RD.brT rfl ?_
                    refine RD.brT rfl ?_
                    refine RD.call (CR := []) (CW := (fun r => [])) rfl (fun _ h => slices_Equal_string_string.ok k x5j11 x6j11 _ h) (fun i => i) trivial (fun _ => rfl) ⟨_, _, _, _, rfl, rfl, rfl⟩ (LeL.eq rfl) trivial (fun _ => rfl) (fun r13 => ?_)
                    refine RD.brT rfl ?_
                    refine RD.brB rfl (fun c15 => ?_) (fun c15 => ?_)
                    · refine RD.call (CR := []) (CW := (fun r => [])) rfl (fun _ h => pilekeep1_ready.ok k  _ h) (fun i => i) trivial (fun _ => rfl) ⟨_, _, _, _, rfl, rfl, rfl⟩ (LeL.eq rfl) trivial (fun _ => rfl) (fun r14 => ?_)
                      refine RD.brT rfl ?_
                      refine RD.fin pilekeep1_PlacesStay.k0 pilekeep1_PlacesStay.k1 rfl rfl (by decide +kernel) ?_
                      refine RS.go ?_
                      exact RT.done rfl rfl (Le.refl _) trivial rfl (dom0 rfl)
                    · refine RD.brF rfl ?_
                      refine RD.fin pilekeep1_PlacesStay.k0 pilekeep1_PlacesStay.k1 rfl rfl (by decide +kernel) ?_
                      refine RS.go ?_
                      exact RT.done rfl rfl (Le.refl _) trivial rfl (dom0 rfl)
                  · refine RD.brF rfl ?_
                    refine RD.brF rfl ?_
                    refine RD.brF rfl ?_
                    refine RD.brF rfl ?_
                    refine RD.brF rfl ?_
                    refine RD.fin pilekeep1_PlacesStay.k2 pilekeep1_PlacesStay.k1 rfl rfl (by decide +kernel) ?_
                    refine RS.go ?_
                    exact RT.done rfl rfl (Le.refl _) trivial rfl (dom0 rfl)
                · refine RD.brF rfl ?_
                  refine RD.brF rfl ?_
                  refine RD.brF rfl ?_
                  refine RD.brF rfl ?_
                  refine RD.brF rfl ?_
                  refine RD.brF rfl ?_
                  refine RD.brF rfl ?_
                  refine RD.brF rfl ?_
                  refine RD.brF rfl ?_
                  refine RD.brF rfl ?_
                  refine RD.brF rfl ?_
                  refine RD.fin pilekeep1_PlacesStay.k3 pilekeep1_PlacesStay.k1 rfl rfl (by decide +kernel) ?_
                  refine RS.go ?_
                  exact RT.done rfl rfl (Le.refl _) trivial rfl (dom0 rfl)
              · exact RT.done rfl rfl (Le.refl _) trivial rfl (dom0 rfl)
            · refine RT.brT rfl ?_
              refine RT.brT rfl ?_
              refine RT.brT rfl ?_
              refine RT.brT rfl ?_
              exact RT.done rfl rfl (Le.refl _) trivial rfl (dom0 rfl)
        · refine RT.brF rfl ?_
          refine RT.brF rfl ?_
          refine RT.brF rfl ?_
          refine RT.brF rfl ?_
          refine RT.call rfl (fun _ h => place_Way.ok k o7_0j11 o7_1j11 o7_0j11 o7_1j11 3 _ h) (fun i => bif Nat.beq i 11 then 66 else i) (LeL.eq rfl) trivial (fun _ => rfl) (fun r21 => ?_)
          refine RS.go ?_
          refine RT.brN rfl (fun c31 => ?_) (fun c31 => ?_)
          · refine RT.brF rfl ?_
            refine RT.req rfl (by first | exact Nat.zero_add _ | rfl | simp [szf, szOf]) ?_
            refine RT.brF rfl ?_
            refine RT.brF rfl ?_
            refine RT.brN rfl (fun c30 => ?_) (fun c30 => ?_)
            · refine RT.req rfl (by first | exact Nat.zero_add _ | rfl | simp) ?_
              refine RT.brT rfl ?_
              refine RT.br rfl (fun c22 => ?_) (fun c22 => RT.none)
              refine RT.req rfl (by first | rfl | simp) ?_
              refine RT.req rfl ⟨by first | rfl | simp, elt_lt (by decide) (by first | exact c22 | simpa using c22)⟩ ?_
              refine RT.goto rfl ?_
              refine RS.obj 66 (bufE e_II (r21.1.set 0 (777, (rdE e_II r21.1 0).2))) ⟨_, rfl, LeO.setE (by decide) (by first | exact c22 | simpa using c22) (all2 rfl rfl)⟩ ?_
              refine RS.go ?_
              refine RT.call rfl (fun _ h => place_Way.ok k o7_0j11 o7_1j11 o7_0j11 o7_1j11 3 _ h) (fun i => bif Nat.beq i 11 then 82 else i) (LeL.eq rfl) trivial (fun _ => rfl) (fun r23 => ?_)
              refine RS.go ?_
              refine RT.goto rfl ?_
              refine RS.draw rfl ?_
              refine RD.br rfl (fun c29 => ?_) (fun c29 => ?_)
              · refine RD.brT rfl ?_
                refine RD.req rfl (by first | exact Nat.zero_add _ | rfl | simp) ?_
                refine RD.brT rfl ?_
                refine RD.br rfl (fun c24 => ?_) (fun c24 => RD.none)
                refine RD.brT rfl ?_
                refine RD.req rfl ⟨by first | rfl | simp, elt_lt (by decide) (by first | exact c24 | simpa using c24)⟩ ?_
                refine RD.brT rfl ?_
                refine RD.brT rfl ?_
                refine RD.brT rfl ?_
                refine RD.brB rfl (fun c28 => ?_) (fun c28 => ?_)
                · refine RD.brT rfl ?_
                  refine RD.brT rfl ?_
                  refine RD.call (CR := []) (CW := (fun r => [])) rfl (fun _ h => slices_Equal_string_string.ok k x5j11 x6j11 _ h) (fun i => i) trivial (fun _ => rfl) ⟨_, _, _, _, rfl, rfl, rfl⟩ (LeL.eq rfl) trivial (fun _ => rfl) (fun r25 => ?_)
                  refine RD.brT rfl ?_
                  refine RD.brB rfl (fun c27 => ?_) (fun c27 => ?_)
                  · refine RD.call (CR := []) (CW := (fun r => [])) rfl (fun _ h => pilekeep1_ready.ok k  _ h) (fun i => i) trivial (fun _ => rfl) ⟨_, _, _, _, rfl, rfl, rfl⟩ (LeL.eq rfl) trivial (fun _ => rfl) (fun r26 => ?_)
                    refine RD.brT rfl ?_
                    refine RD.fin pilekeep1_PlacesStay.k0 pilekeep1_PlacesStay.k1 rfl rfl (by decide +kernel) ?_
                    refine RS.go ?_
                    exact RT.done rfl rfl (Le.refl _) trivial rfl (dom0 rfl)
                  · refine RD.brF rfl ?_
                    refine RD.fin pilekeep1_PlacesStay.k0 pilekeep1_PlacesStay.k1 rfl rfl (by decide +kernel) ?_
                    refine RS.go ?_
                    exact RT.done rfl rfl (Le.refl _) trivial rfl (dom0 rfl)
                · refine RD.brF rfl ?_
                  refine RD.brF rfl ?_
                  refine RD.brF rfl ?_
                  refine RD.brF rfl ?_
                  refine RD.brF rfl ?_
                  refine RD.fin pilekeep1_PlacesStay.k2 pilekeep1_PlacesStay.k1 rfl rfl (by decide +kernel) ?_
                  refine RS.go ?_
                  exact RT.done rfl rfl (Le.refl _) trivial rfl (dom0 rfl)
              · refine RD.brF rfl ?_
                refine RD.brF rfl ?_
                refine RD.brF rfl ?_
                refine RD.brF rfl ?_
                refine RD.brF rfl ?_
                refine RD.brF rfl ?_
                refine RD.brF rfl ?_
                refine RD.brF rfl ?_
                refine RD.brF rfl ?_
                refine RD.brF rfl ?_
                refine RD.brF rfl ?_
                refine RD.fin pilekeep1_PlacesStay.k3 pilekeep1_PlacesStay.k1 rfl rfl (by decide +kernel) ?_
                refine RS.go ?_
                exact RT.done rfl rfl (Le.refl _) trivial rfl (dom0 rfl)
            · exact RT.done rfl rfl (Le.refl _) trivial rfl (dom0 rfl)
          · refine RT.brT rfl ?_
            refine RT.brT rfl ?_
            refine RT.brT rfl ?_
            refine RT.brT rfl ?_
            exact RT.done rfl rfl (Le.refl _) trivial rfl (dom0 rfl)
    · intro x5 x6 x37 x38 o7_0 o7_1 o31
      simp only [pilekeep1_PlacesStay.l0]
      refine RS.go ?_
      refine RT.br rfl (fun c45 => ?_) (fun c45 => ?_)
      · refine RT.req rfl (by first | exact Nat.zero_add _ | rfl | simp) ?_
        refine RT.br rfl (fun c5 => ?_) (fun c5 => RT.none)
        refine RT.br rfl (fun c6 => ?_) (fun c6 => RT.none)
        refine RT.req rfl ⟨by first | rfl | simp, elt_lt c5 (by first | exact c6 | simpa using c6)⟩ ?_
        refine RT.goto rfl ?_
        refine RS.obj 31 (bufE eS (o31.set (x38).toNat (⟨#[115, 112, 111, 105, 108, 116]⟩ : ByteArray))) ⟨_, rfl, LeO.setE c5 (by first | exact c6 | simpa using c6) (all1 rfl)⟩ ?_
        refine RS.go ?_
        refine RT.goto rfl ?_
        refine RS.weak [(5, sq eS x5), (6, sq eS x6), (7, .ref 7 0 0 0 2), (8, .osl 31 eS.w 0 (o31.set (x38).toNat (⟨#[115, 112, 111, 105, 108, 116]⟩ : ByteArray)).length (o31.set (x38).toNat (⟨#[115, 112, 111, 105, 108, 116]⟩ : ByteArray)).length), (37, .int .i64 x37), (38, .int .i64 (wrap64 (x38 + 1)))] [(7, .box [.int .i64 o7_0, .int .i64 o7_1]), (31, bufE eS (o31.set (x38).toNat (⟨#[115, 112, 111, 105, 108, 116]⟩ : ByteArray)))] ⟨Le.eq (by first | rfl | simp), Le.eq (by first | rfl | simp), Le.eq (by first | rfl | simp), (by first | exact Le.oslN rfl (by first | rfl | simp) | exact Le.refl _ | exact Le.eq (by first | rfl | simp)), Le.eq (by first | rfl | simp), Le.eq (by first | rfl | simp), trivial⟩ ⟨⟨_, rfl, LeO.refl _⟩, ⟨_, rfl, LeO.refl _⟩, trivial⟩ rfl (dom0 rfl) ?_
        exact ih.2 x5 x6 x37 (wrap64 (x38 + 1)) o7_0 o7_1 (o31.set (x38).toNat (⟨#[115, 112, 111, 105, 108, 116]⟩ : ByteArray)) 
      · refine RT.goto rfl ?_
        refine RS.weak [(5, sq eS x5), (6, sq eS x6), (7, .ref 7 0 0 0 2)] [(7, .box [.int .i64 o7_0, .int .i64 o7_1])] ⟨Le.eq (by first | rfl | simp), Le.eq (by first | rfl | simp), Le.eq (by first | rfl | simp), trivial⟩ ⟨⟨_, rfl, LeO.refl _⟩, trivial⟩ rfl (dom0 rfl) ?_
        exact ih.1 x5 x6 o7_0 o7_1 
theorem pilekeep1_PlacesStay.ok (k : Nat) (l0 : List Int) (r : Bool) (h : pilekeep1_PlacesStay.f k l0 = some r) : Ct Tryz.prog B 4 [sq eI l0] (ofL []) (.bool r) (ofL []) := by
  refine Ct.of (Y := (fam Tryz.f4 [11] [] [] (fun r : Bool => .bool r) (fun r => []))) Tryz.func4 rfl Tryz.call4 rfl rfl ?_ r h
  unfold pilekeep1_PlacesStay.f
  refine RS.go ?_
  refine RT.call rfl (fun _ h => pilemake_Stream_LocatorList.ok k l0 0 6 _ h) (fun i => bif Nat.beq i 100000 then 19 else i) (LeL.eq rfl) ⟨⟨_, rfl, LeO.refl _⟩, trivial⟩ (fun _ => rfl) (fun r1 => ?_)
  refine RS.go ?_
  refine RT.call rfl (fun _ h => pilemake_Stream_LocatorList.ok k l0 0 6 _ h) (fun i => bif Nat.beq i 100000 then 22 else i) (LeL.eq rfl) ⟨⟨_, rfl, LeO.refl _⟩, trivial⟩ (fun _ => rfl) (fun r2 => ?_)
  refine RS.go ?_
  refine RT.call rfl (fun _ h => pilemake_Stream_RightSite.ok k r1.2.1 r1.2.2 _ h) (fun i => bif Nat.beq i 100000 then 19 else i) (LeL.eq rfl) ⟨⟨_, rfl, LeO.refl _⟩, trivial⟩ (fun _ => rfl) (fun r3 => ?_)
  refine RS.go ?_
  refine RT.call rfl (fun _ h => place_Squares.ok k r1.1 _ h) (fun i => bif Nat.beq i 31 then 31 else i) (LeL.eq rfl) trivial (fun _ => rfl) (fun r4 => ?_)
  refine RS.go ?_
  refine RT.br rfl (fun c46 => ?_) (fun c46 => ?_)
  · refine RT.req rfl (by first | exact Nat.zero_add _ | rfl | simp [szf, szOf]) ?_
    refine RT.goto rfl ?_
    refine RS.weak [(5, sq eS r1.1), (6, sq eS r2.1), (7, .ref 7 0 0 0 2), (8, .osl 31 eS.w 0 r4.1.length r4.1.length), (37, .int .i64 (r4.1.length : Int)), (38, .int .i64 0)] [(7, .box [.int .i64 r3.1, .int .i64 r3.2.1]), (31, bufE eS r4.1)] ⟨Le.eq (by first | rfl | simp), Le.eq (by first | rfl | simp), Le.eq (by first | rfl | simp), (by first | exact Le.oslN rfl (by first | rfl | simp) | exact Le.refl _ | exact Le.eq (by first | rfl | simp)), Le.eq (by first | rfl | simp), Le.eq (by first | rfl | simp), trivial⟩ ⟨⟨_, rfl, LeO.refl _⟩, ⟨_, rfl, LeO.refl _⟩, trivial⟩ rfl (dom0 rfl) ?_
    exact (pilekeep1_PlacesStay.loops k).2 r1.1 r2.1 (r4.1.length : Int) 0 r3.1 r3.2.1 r4.1 
  · refine RT.goto rfl ?_
    refine RS.weak [(5, sq eS r1.1), (6, sq eS r2.1), (7, .ref 7 0 0 0 2)] [(7, .box [.int .i64 r3.1, .int .i64 r3.2.1])] ⟨Le.eq (by first | rfl | simp), Le.eq (by first | rfl | simp), Le.eq (by first | rfl | simp), trivial⟩ ⟨⟨_, rfl, LeO.refl _⟩, trivial⟩ rfl (dom0 rfl) ?_
    exact (pilekeep1_PlacesStay.loops k).1 r1.1 r2.1 r3.1 r3.2.1 
end Go.EV
