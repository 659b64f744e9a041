/- Printed by a program of this session: a Lean function for each function that the law reaches, and that the code comes to it. -/
import Derived.Test.YtgcffkjajngmiaaDoorEvS
set_option linter.unusedVariables false
set_option linter.unusedSimpArgs false
namespace Go.EV
open Go Go.Proofs Go.RowKit
set_option maxHeartbeats 4000000
set_option maxRecDepth 100000
set_option linter.unusedVariables false
def str_0 : ByteArray := ⟨#[97, 98, 99, 100, 101, 102, 103, 104, 105, 106, 107, 108, 109, 110, 111, 112, 113, 114, 115, 116, 117, 118, 119, 120, 121, 122, 48, 49, 50, 51, 52, 53, 54, 55, 56, 57]⟩
def str_1 : ByteArray := ⟨#[97, 98, 99, 100, 101, 102, 103, 104, 105, 106, 107, 108, 109, 110, 111, 112, 113, 114, 115, 116, 117, 118, 119, 120, 121, 122]⟩

/-! ### pilemake_Below: function 29 -/
def pilemake_Below.j6 : Nat → Int → Option (Int)
  | 0, _ => Option.none
  | k + 1, x0j6 => Option.some x0j6
def pilemake_Below.f (k : Nat) (a0 : Int) (a1 : Int) : Option (Int) := (if a1 < 1 then Option.some 0 else (if a1 = 0 then Option.none else (if Int.tmod a0 a1 < 0 then pilemake_Below.j6 k (wrap64 ((Int.tmod a0 a1) + a1)) else pilemake_Below.j6 k (Int.tmod a0 a1))))
theorem pilemake_Below.loops : ∀ k, (∀ (x0j6 : Int), RS (fam Tryd.f29 [6] [] [] (fun r : Int => .int .i64 r) (fun r => [])) (Func.reg Tryd.f29 6) ⟨ofT [(0, .int .i64 x0j6)], ofL []⟩ (pilemake_Below.j6 k x0j6))
  | 0 => by intro _; simp only [pilemake_Below.j6]; exact RS.none
  | k + 1 => by
    have ih := pilemake_Below.loops k
    · intro x0j6
      simp only [pilemake_Below.j6]
      refine RS.region ?_
      refine RS.go ?_
      exact RT.done rfl rfl (Le.refl _) trivial rfl (dom0 rfl)
theorem pilemake_Below.ok (k : Nat) (a0 : Int) (a1 : Int) (r : Int) (h : pilemake_Below.f k a0 a1 = some r) : Ct Tryd.prog B 29 [.int .i64 a0, .int .i64 a1] (ofL []) (.int .i64 r) (ofL []) := by
  refine Ct.of (Y := (fam Tryd.f29 [6] [] [] (fun r : Int => .int .i64 r) (fun r => []))) Tryd.func29 rfl Tryd.call29 rfl rfl ?_ r h
  unfold pilemake_Below.f
  refine RS.go ?_
  refine RT.br rfl (fun c3 => ?_) (fun c3 => ?_)
  · exact RT.done rfl rfl (Le.refl _) trivial rfl (dom0 rfl)
  · refine RT.br rfl (fun _ => RT.none) (fun c2 => ?_)
    refine RT.br rfl (fun c1 => ?_) (fun c1 => ?_)
    · refine RT.goto rfl ?_
      refine RS.weak [(0, .int .i64 (wrap64 ((Int.tmod a0 a1) + a1)))] [] ⟨Le.eq (by first | rfl | simp), trivial⟩ trivial rfl (dom0 rfl) ?_
      exact pilemake_Below.loops k (wrap64 ((Int.tmod a0 a1) + a1)) 
    · refine RT.goto rfl ?_
      refine RS.weak [(0, .int .i64 (Int.tmod a0 a1))] [] ⟨Le.eq (by first | rfl | simp), trivial⟩ trivial rfl (dom0 rfl) ?_
      exact pilemake_Below.loops k (Int.tmod a0 a1) 
/-! ### pilemake_Stream_Next: function 16 -/
def pilemake_Stream_Next.k0 : List DK := [⟨[48], [], [6], []⟩, ⟨[42, 47], [], [48], []⟩, ⟨[46], [], [47], []⟩, ⟨[45], [100000], [46], []⟩, ⟨[44], [100000], [45], []⟩, ⟨[43], [100000], [44], []⟩, ⟨[0], [], [43], []⟩, ⟨[41], [], [42], []⟩, ⟨[40], [100000], [41], []⟩, ⟨[39], [100000], [40], []⟩, ⟨[38], [100000], [39], []⟩, ⟨[0], [], [38], []⟩]
def pilemake_Stream_Next.k1 : List Nat := [0, 1, 3, 7, 15, 0, 32, 96, 224, 480, 1023, 2047]
def pilemake_Stream_Next.k2 : List DK := [⟨[37], [], [5], []⟩, ⟨[31, 36], [], [37], []⟩, ⟨[35], [], [36], []⟩, ⟨[34], [100000], [35], []⟩, ⟨[33], [100000], [34], []⟩, ⟨[32], [100000], [33], []⟩, ⟨[0], [], [32], []⟩, ⟨[30], [], [31], []⟩, ⟨[29], [100000], [30], []⟩, ⟨[28], [100000], [29], []⟩, ⟨[27], [100000], [28], []⟩, ⟨[0], [], [27], []⟩]
def pilemake_Stream_Next.f (k : Nat) (p0_0 : List Int) (p0_1 : Int) (a1 : Int) : Option (Int × (List Int) × Int) := (if (p0_0.length : Int) = 0 then ((pilemake_Below.f k (wrap64 ((wrap64 (p0_1 + 1)) * 7919)) a1).bind fun r1 => Option.some (r1, p0_0, wrap64 (p0_1 + 1))) else (if (p0_0.length : Int) = 0 then Option.none else (if (p0_0.length : Int) = 0 then Option.none else (if 0 ≤ Int.tmod (wrap64 ((wrap64 (p0_1 + 1)) - 1)) (p0_0.length : Int) then (if Int.tmod (wrap64 ((wrap64 (p0_1 + 1)) - 1)) (p0_0.length : Int) < (p0_0.length : Int) then ((pilemake_Below.f k (rd p0_0 (Int.tmod (wrap64 ((wrap64 (p0_1 + 1)) - 1)) (p0_0.length : Int))) 1073741824).bind fun r4 => ((pilemake_Below.f k (wrap64 (r4 + (wrap64 ((wrap64 (Int.tdiv (wrap64 ((wrap64 (p0_1 + 1)) - 1)) (p0_0.length : Int))) * (wrap64 (7919 + (Int.tmod (wrap64 ((wrap64 (p0_1 + 1)) - 1)) (p0_0.length : Int)))))))) a1).bind fun r5 => Option.some (r5, p0_0, wrap64 (p0_1 + 1)))) else Option.none) else Option.none))))
theorem pilemake_Stream_Next.ok (k : Nat) (p0_0 : List Int) (p0_1 : Int) (a1 : Int) (r : Int × (List Int) × Int) (h : pilemake_Stream_Next.f k p0_0 p0_1 a1 = some r) : Ct Tryd.prog B 16 [.ref 100000 0 0 0 2, .int .i64 a1] (ofL [(100000, .box [sq eI p0_0, .int .i64 p0_1])]) (.int .i64 r.1) (ofL [(100000, .box [sq eI r.2.1, .int .i64 r.2.2])]) := by
  refine Ct.of (Y := (fam Tryd.f16 [] [] [(100000, .box [sq eI p0_0, .int .i64 p0_1])] (fun r : Int × (List Int) × Int => .int .i64 r.1) (fun r => [(100000, .box [sq eI r.2.1, .int .i64 r.2.2])]))) Tryd.func16 rfl Tryd.call16 rfl rfl ?_ r h
  unfold pilemake_Stream_Next.f
  refine RS.go ?_
  refine RT.br rfl (fun c8 => ?_) (fun c8 => ?_)
  · refine RT.call0 rfl (fun _ h => pilemake_Below.ok k (wrap64 ((wrap64 (p0_1 + 1)) * 7919)) a1 _ h) (LeL.eq rfl) (fun _ => rfl) (fun r1 => ?_)
    refine RS.go ?_
    exact RT.done rfl rfl (Le.refl _) ⟨⟨_, rfl, LeO.refl _⟩, trivial⟩ rfl (dom_of rfl)
  · refine RT.goto rfl ?_
    refine RS.draw rfl ?_
    refine RD.br rfl (fun _ => RD.none) (fun c7 => ?_)
    refine RD.fin pilemake_Stream_Next.k2 pilemake_Stream_Next.k1 rfl rfl (by decide +kernel) ?_
    refine RS.go ?_
    refine RT.goto rfl ?_
    refine RS.draw rfl ?_
    refine RD.br rfl (fun _ => RD.none) (fun c6 => ?_)
    refine RD.fin pilemake_Stream_Next.k0 pilemake_Stream_Next.k1 rfl rfl (by decide +kernel) ?_
    refine RS.go ?_
    refine RT.br rfl (fun c2 => ?_) (fun c2 => RT.none)
    refine RT.br rfl (fun c3 => ?_) (fun c3 => RT.none)
    refine RT.call0 rfl (fun _ h => pilemake_Below.ok k (rd p0_0 (Int.tmod (wrap64 ((wrap64 (p0_1 + 1)) - 1)) (p0_0.length : Int))) 1073741824 _ h) (LeL.eq rfl) (fun _ => rfl) (fun r4 => ?_)
    refine RS.go ?_
    refine RT.call0 rfl (fun _ h => pilemake_Below.ok k (wrap64 (r4 + (wrap64 ((wrap64 (Int.tdiv (wrap64 ((wrap64 (p0_1 + 1)) - 1)) (p0_0.length : Int))) * (wrap64 (7919 + (Int.tmod (wrap64 ((wrap64 (p0_1 + 1)) - 1)) (p0_0.length : Int)))))))) a1 _ h) (LeL.eq rfl) (fun _ => rfl) (fun r5 => ?_)
    refine RS.go ?_
    exact RT.done rfl rfl (Le.refl _) ⟨⟨_, rfl, LeO.refl _⟩, trivial⟩ rfl (dom_of rfl)
/-! ### pilemake_Stream_Some: function 15 -/
def pilemake_Stream_Some.f (k : Nat) (p0_0 : List Int) (p0_1 : Int) (l1 : List ByteArray) : Option (ByteArray × (List Int) × Int) := ((pilemake_Stream_Next.f k p0_0 p0_1 (l1.length : Int)).bind fun r1 => (if 0 ≤ r1.1 then (if r1.1 < (l1.length : Int) then Option.some ((rdE eS l1 r1.1), r1.2.1, r1.2.2) else Option.none) else Option.none))
theorem pilemake_Stream_Some.ok (k : Nat) (p0_0 : List Int) (p0_1 : Int) (l1 : List ByteArray) (r : ByteArray × (List Int) × Int) (h : pilemake_Stream_Some.f k p0_0 p0_1 l1 = some r) : Ct Tryd.prog B 15 [.ref 100000 0 0 0 2, sq eS l1] (ofL [(100000, .box [sq eI p0_0, .int .i64 p0_1])]) (.str r.1) (ofL [(100000, .box [sq eI r.2.1, .int .i64 r.2.2])]) := by
  refine Ct.of (Y := (fam Tryd.f15 [] [] [(100000, .box [sq eI p0_0, .int .i64 p0_1])] (fun r : ByteArray × (List Int) × Int => .str r.1) (fun r => [(100000, .box [sq eI r.2.1, .int .i64 r.2.2])]))) Tryd.func15 rfl Tryd.call15 rfl rfl ?_ r h
  unfold pilemake_Stream_Some.f
  refine RS.go ?_
  refine RT.call rfl (fun _ h => pilemake_Stream_Next.ok k p0_0 p0_1 (l1.length : Int) _ h) (fun i => bif Nat.beq i 100000 then 100000 else i) (LeL.eq rfl) ⟨⟨_, rfl, LeO.refl _⟩, trivial⟩ (fun _ => rfl) (fun r1 => ?_)
  refine RS.go ?_
  refine RT.br rfl (fun c2 => ?_) (fun c2 => RT.none)
  refine RT.br rfl (fun c3 => ?_) (fun c3 => RT.none)
  exact RT.done rfl rfl (Le.refl _) ⟨⟨_, rfl, LeO.refl _⟩, trivial⟩ rfl (dom_of rfl)
/-! ### pilemake_Stream_Flip: function 17 -/
def pilemake_Stream_Flip.f (k : Nat) (p0_0 : List Int) (p0_1 : Int) (a1 : Int) : Option (Bool × (List Int) × Int) := ((pilemake_Stream_Next.f k p0_0 p0_1 a1).bind fun r1 => Option.some ((decide (r1.1 = 0)), r1.2.1, r1.2.2))
theorem pilemake_Stream_Flip.ok (k : Nat) (p0_0 : List Int) (p0_1 : Int) (a1 : Int) (r : Bool × (List Int) × Int) (h : pilemake_Stream_Flip.f k p0_0 p0_1 a1 = some r) : Ct Tryd.prog B 17 [.ref 100000 0 0 0 2, .int .i64 a1] (ofL [(100000, .box [sq eI p0_0, .int .i64 p0_1])]) (.bool r.1) (ofL [(100000, .box [sq eI r.2.1, .int .i64 r.2.2])]) := by
  refine Ct.of (Y := (fam Tryd.f17 [] [] [(100000, .box [sq eI p0_0, .int .i64 p0_1])] (fun r : Bool × (List Int) × Int => .bool r.1) (fun r => [(100000, .box [sq eI r.2.1, .int .i64 r.2.2])]))) Tryd.func17 rfl Tryd.call17 rfl rfl ?_ r h
  unfold pilemake_Stream_Flip.f
  refine RS.go ?_
  refine RT.call rfl (fun _ h => pilemake_Stream_Next.ok k p0_0 p0_1 a1 _ h) (fun i => bif Nat.beq i 100000 then 100000 else i) (LeL.eq rfl) ⟨⟨_, rfl, LeO.refl _⟩, trivial⟩ (fun _ => rfl) (fun r1 => ?_)
  refine RS.go ?_
  exact RT.done rfl rfl (Le.refl _) ⟨⟨_, rfl, LeO.refl _⟩, trivial⟩ rfl (dom_of rfl)
/-! ### pilemake_Stream_Changed: function 18 -/
def pilemake_Stream_Changed.k0 : List DK := [⟨[41], [], [6], []⟩, ⟨[36, 40], [], [41], []⟩, ⟨[37, 39], [], [40], []⟩, ⟨[38], [], [39], []⟩, ⟨[7], [], [38], []⟩, ⟨[1], [], [37], []⟩, ⟨[32, 35], [], [36], []⟩, ⟨[34], [], [35], []⟩, ⟨[33], [], [34], []⟩, ⟨[8], [], [33], []⟩, ⟨[30, 31], [], [32], []⟩, ⟨[7], [], [31], []⟩, ⟨[1], [], [30], []⟩]
def pilemake_Stream_Changed.k1 : List Nat := [0, 0, 3, 0, 8, 24, 63, 0, 0, 256, 896, 2047, 4095]
def pilemake_Stream_Changed.k2 : List DK := [⟨[54], [], [6], []⟩, ⟨[50, 53], [], [54], []⟩, ⟨[51, 52], [], [53], []⟩, ⟨[7], [], [52], []⟩, ⟨[1], [], [51], []⟩, ⟨[46, 49], [], [50], []⟩, ⟨[48], [], [49], []⟩, ⟨[47], [], [48], []⟩, ⟨[8], [], [47], []⟩, ⟨[44, 45], [], [46], []⟩, ⟨[7], [], [45], []⟩, ⟨[1], [], [44], []⟩]
def pilemake_Stream_Changed.k3 : List Nat := [0, 0, 3, 0, 8, 24, 63, 0, 0, 384, 1023, 2047]
def pilemake_Stream_Changed.k4 : List DK := [⟨[62], [], [6], []⟩, ⟨[57, 61], [], [62], []⟩, ⟨[58, 60], [], [61], []⟩, ⟨[59], [], [60], []⟩, ⟨[7], [], [59], []⟩, ⟨[1], [], [58], []⟩, ⟨[55, 56], [], [57], []⟩, ⟨[7], [], [56], []⟩, ⟨[1], [], [55], []⟩]
def pilemake_Stream_Changed.k5 : List Nat := [0, 0, 3, 0, 0, 16, 56, 127, 255]
def pilemake_Stream_Changed.f (k : Nat) (p0_0 : List Int) (p0_1 : Int) (a1 : ByteArray) (a2 : ByteArray) : Option (ByteArray × (List Int) × Int) := (if a1 = (⟨#[]⟩ : ByteArray) then Option.some (a2, p0_0, p0_1) else (if a2 = (⟨#[]⟩ : ByteArray) then Option.some (a2, p0_0, p0_1) else ((pilemake_Stream_Next.f k p0_0 p0_1 (a1.size : Int)).bind fun r1 => ((pilemake_Stream_Next.f k r1.2.1 r1.2.2 (a2.size : Int)).bind fun r2 => (if 0 ≤ r2.1 then (if r2.1 < (a2.size : Int) then ((pilemake_Stream_Next.f k r2.2.1 r2.2.2 3).bind fun r5 => (if r5.1 = 0 then (if 0 ≤ r1.1 then (if r1.1 ≤ (a1.size : Int) then (if (a1.extract 0 (r1.1).toNat).size + (Utf8.encode (IntKind.i32.wrap (bt a2 r2.1))).size ≤ 9223372036854775807 then (if 0 ≤ wrap64 (r1.1 + 1) then (if wrap64 (r1.1 + 1) ≤ (a1.size : Int) then (if ((a1.extract 0 (r1.1).toNat) ++ (Utf8.encode (IntKind.i32.wrap (bt a2 r2.1)))).size + (a1.extract (wrap64 (r1.1 + 1)).toNat ((a1.size : Int)).toNat).size ≤ 9223372036854775807 then Option.some (((a1.extract 0 (r1.1).toNat) ++ (Utf8.encode (IntKind.i32.wrap (bt a2 r2.1)))) ++ (a1.extract (wrap64 (r1.1 + 1)).toNat ((a1.size : Int)).toNat), r5.2.1, r5.2.2) else Option.none) else Option.none) else Option.none) else Option.none) else Option.none) else Option.none) else (if r5.1 = 1 then (if 0 ≤ r1.1 then (if r1.1 ≤ (a1.size : Int) then (if (a1.extract 0 (r1.1).toNat).size + (Utf8.encode (IntKind.i32.wrap (bt a2 r2.1))).size ≤ 9223372036854775807 then (if 0 ≤ r1.1 then (if r1.1 ≤ (a1.size : Int) then (if ((a1.extract 0 (r1.1).toNat) ++ (Utf8.encode (IntKind.i32.wrap (bt a2 r2.1)))).size + (a1.extract (r1.1).toNat ((a1.size : Int)).toNat).size ≤ 9223372036854775807 then Option.some (((a1.extract 0 (r1.1).toNat) ++ (Utf8.encode (IntKind.i32.wrap (bt a2 r2.1)))) ++ (a1.extract (r1.1).toNat ((a1.size : Int)).toNat), r5.2.1, r5.2.2) else Option.none) else Option.none) else Option.none) else Option.none) else Option.none) else Option.none) else (if 0 ≤ r1.1 then (if r1.1 ≤ (a1.size : Int) then (if 0 ≤ wrap64 (r1.1 + 1) then (if wrap64 (r1.1 + 1) ≤ (a1.size : Int) then (if (a1.extract 0 (r1.1).toNat).size + (a1.extract (wrap64 (r1.1 + 1)).toNat ((a1.size : Int)).toNat).size ≤ 9223372036854775807 then Option.some ((a1.extract 0 (r1.1).toNat) ++ (a1.extract (wrap64 (r1.1 + 1)).toNat ((a1.size : Int)).toNat), r5.2.1, r5.2.2) else Option.none) else Option.none) else Option.none) else Option.none) else Option.none)))) else Option.none) else Option.none)))))
theorem pilemake_Stream_Changed.ok (k : Nat) (p0_0 : List Int) (p0_1 : Int) (a1 : ByteArray) (a2 : ByteArray) (r : ByteArray × (List Int) × Int) (h : pilemake_Stream_Changed.f k p0_0 p0_1 a1 a2 = some r) : Ct Tryd.prog B 18 [.ref 100000 0 0 0 2, .str a1, .str a2] (ofL [(100000, .box [sq eI p0_0, .int .i64 p0_1])]) (.str r.1) (ofL [(100000, .box [sq eI r.2.1, .int .i64 r.2.2])]) := by
  refine Ct.of (Y := (fam Tryd.f18 [] [] [(100000, .box [sq eI p0_0, .int .i64 p0_1])] (fun r : ByteArray × (List Int) × Int => .str r.1) (fun r => [(100000, .box [sq eI r.2.1, .int .i64 r.2.2])]))) Tryd.func18 rfl Tryd.call18 rfl rfl ?_ r h
  unfold pilemake_Stream_Changed.f
  refine RS.go ?_
  refine RT.br rfl (fun c26 => ?_) (fun c26 => ?_)
  · refine RT.brT rfl ?_
    refine RT.brT rfl ?_
    refine RT.brT rfl ?_
    exact RT.done rfl rfl (Le.refl _) ⟨⟨_, rfl, LeO.refl _⟩, trivial⟩ rfl (dom_of rfl)
  · refine RT.brF rfl ?_
    refine RT.brF rfl ?_
    refine RT.br rfl (fun c25 => ?_) (fun c25 => ?_)
    · exact RT.done rfl rfl (Le.refl _) ⟨⟨_, rfl, LeO.refl _⟩, trivial⟩ rfl (dom_of rfl)
    · refine RT.call rfl (fun _ h => pilemake_Stream_Next.ok k p0_0 p0_1 (a1.size : Int) _ h) (fun i => bif Nat.beq i 100000 then 100000 else i) (LeL.eq rfl) ⟨⟨_, rfl, LeO.refl _⟩, trivial⟩ (fun _ => rfl) (fun r1 => ?_)
      refine RS.go ?_
      refine RT.call rfl (fun _ h => pilemake_Stream_Next.ok k r1.2.1 r1.2.2 (a2.size : Int) _ h) (fun i => bif Nat.beq i 100000 then 100000 else i) (LeL.eq rfl) ⟨⟨_, rfl, LeO.refl _⟩, trivial⟩ (fun _ => rfl) (fun r2 => ?_)
      refine RS.go ?_
      refine RT.br rfl (fun c3 => ?_) (fun c3 => RT.none)
      refine RT.br rfl (fun c4 => ?_) (fun c4 => RT.none)
      refine RT.call rfl (fun _ h => pilemake_Stream_Next.ok k r2.2.1 r2.2.2 3 _ h) (fun i => bif Nat.beq i 100000 then 100000 else i) (LeL.eq rfl) ⟨⟨_, rfl, LeO.refl _⟩, trivial⟩ (fun _ => rfl) (fun r5 => ?_)
      refine RS.go ?_
      refine RT.br rfl (fun c24 => ?_) (fun c24 => ?_)
      · refine RT.goto rfl ?_
        refine RS.draw rfl ?_
        refine RD.br rfl (fun c6 => ?_) (fun c6 => RD.none)
        refine RD.br rfl (fun c7 => ?_) (fun c7 => RD.none)
        refine RD.br rfl (fun c8 => ?_) (fun c8 => RD.none)
        refine RD.br rfl (fun c9 => ?_) (fun c9 => RD.none)
        refine RD.br rfl (fun c10 => ?_) (fun c10 => RD.none)
        refine RD.br rfl (fun c11 => ?_) (fun c11 => RD.none)
        refine RD.fin pilemake_Stream_Changed.k0 pilemake_Stream_Changed.k1 rfl rfl (by decide +kernel) ?_
        refine RS.go ?_
        exact RT.done rfl rfl (Le.refl _) ⟨⟨_, rfl, LeO.refl _⟩, trivial⟩ rfl (dom_of rfl)
      · refine RT.br rfl (fun c23 => ?_) (fun c23 => ?_)
        · refine RT.goto rfl ?_
          refine RS.draw rfl ?_
          refine RD.br rfl (fun c12 => ?_) (fun c12 => RD.none)
          refine RD.br rfl (fun c13 => ?_) (fun c13 => RD.none)
          refine RD.br rfl (fun c14 => ?_) (fun c14 => RD.none)
          refine RD.br rfl (fun c15 => ?_) (fun c15 => RD.none)
          refine RD.br rfl (fun c16 => ?_) (fun c16 => RD.none)
          refine RD.br rfl (fun c17 => ?_) (fun c17 => RD.none)
          refine RD.fin pilemake_Stream_Changed.k2 pilemake_Stream_Changed.k3 rfl rfl (by decide +kernel) ?_
          refine RS.go ?_
          exact RT.done rfl rfl (Le.refl _) ⟨⟨_, rfl, LeO.refl _⟩, trivial⟩ rfl (dom_of rfl)
        · refine RT.goto rfl ?_
          refine RS.draw rfl ?_
          refine RD.br rfl (fun c18 => ?_) (fun c18 => RD.none)
          refine RD.br rfl (fun c19 => ?_) (fun c19 => RD.none)
          refine RD.br rfl (fun c20 => ?_) (fun c20 => RD.none)
          refine RD.br rfl (fun c21 => ?_) (fun c21 => RD.none)
          refine RD.br rfl (fun c22 => ?_) (fun c22 => RD.none)
          refine RD.fin pilemake_Stream_Changed.k4 pilemake_Stream_Changed.k5 rfl rfl (by decide +kernel) ?_
          refine RS.go ?_
          exact RT.done rfl rfl (Le.refl _) ⟨⟨_, rfl, LeO.refl _⟩, trivial⟩ rfl (dom_of rfl)
/-! ### pilemake_Stream_CallOf: function 5 -/
mutual
def pilemake_Stream_CallOf.j12 : Nat → ByteArray → List Int → Int → Option (ByteArray × (List Int) × Int)
  | 0, _, _, _ => Option.none
  | k + 1, x4j12, o100000_0j12, o100000_1j12 => Option.some (x4j12, o100000_0j12, o100000_1j12)
def pilemake_Stream_CallOf.j10 : Nat → ByteArray → List Int → Int → Option (ByteArray × (List Int) × Int)
  | 0, _, _, _ => Option.none
  | k + 1, x4j10, o100000_0j10, o100000_1j10 => ((pilemake_Stream_Flip.f k o100000_0j10 o100000_1j10 12).bind fun r5 => (if r5.1 = true then ((pilemake_Stream_Changed.f k r5.2.1 r5.2.2 x4j10 (⟨#[97, 48, 47, 107, 49, 45]⟩ : ByteArray)).bind fun r6 => pilemake_Stream_CallOf.j12 k r6.1 r6.2.1 r6.2.2) else pilemake_Stream_CallOf.j12 k x4j10 r5.2.1 r5.2.2))
end
def pilemake_Stream_CallOf.f (k : Nat) (p0_0 : List Int) (p0_1 : Int) : Option (ByteArray × (List Int) × Int) := ((pilemake_Stream_Some.f k p0_0 p0_1 [(⟨#[107, 49, 97, 98]⟩ : ByteArray), (⟨#[107, 52, 97, 98]⟩ : ByteArray), (⟨#[111, 104, 50, 97, 98, 99]⟩ : ByteArray), (⟨#[111, 104, 48, 120]⟩ : ByteArray), (⟨#[51, 100, 97, 48, 120, 121]⟩ : ByteArray), (⟨#[103, 51, 97]⟩ : ByteArray), (⟨#[100, 108, 49, 122, 122]⟩ : ByteArray), (⟨#[119, 49, 97, 119]⟩ : ByteArray), (⟨#[107, 49, 98, 97]⟩ : ByteArray)]).bind fun r1 => ((pilemake_Stream_Next.f k r1.2.1 r1.2.2 9).bind fun r2 => (if r2.1 = 0 then ((pilemake_Stream_Some.f k r2.2.1 r2.2.2 [(⟨#[47, 112]⟩ : ByteArray), (⟨#[47, 109]⟩ : ByteArray), (⟨#[47, 109, 109]⟩ : ByteArray), (⟨#[47, 97, 109]⟩ : ByteArray), (⟨#[47, 52]⟩ : ByteArray), (⟨#[47, 48]⟩ : ByteArray)]).bind fun r3 => (if r1.1.size + r3.1.size ≤ 9223372036854775807 then pilemake_Stream_CallOf.j10 k (r1.1 ++ r3.1) r3.2.1 r3.2.2 else Option.none)) else (if r2.1 = 1 then ((pilemake_Stream_Some.f k r2.2.1 r2.2.2 [(⟨#[111, 104, 48]⟩ : ByteArray), (⟨#[103]⟩ : ByteArray), (⟨#[51, 97]⟩ : ByteArray), (⟨#[100, 108]⟩ : ByteArray)]).bind fun r8 => (if r8.1.size + (⟨#[47]⟩ : ByteArray).size ≤ 9223372036854775807 then (if (r8.1 ++ (⟨#[47]⟩ : ByteArray)).size + r1.1.size ≤ 9223372036854775807 then pilemake_Stream_CallOf.j10 k ((r8.1 ++ (⟨#[47]⟩ : ByteArray)) ++ r1.1) r8.2.1 r8.2.2 else Option.none) else Option.none)) else (if r2.1 = 2 then (if r1.1.size + (⟨#[47]⟩ : ByteArray).size ≤ 9223372036854775807 then ((pilemake_Stream_Some.f k r2.2.1 r2.2.2 [(⟨#[111, 104, 48]⟩ : ByteArray), (⟨#[103]⟩ : ByteArray), (⟨#[119, 50, 98]⟩ : ByteArray), (⟨#[107]⟩ : ByteArray)]).bind fun r12 => (if (r1.1 ++ (⟨#[47]⟩ : ByteArray)).size + r12.1.size ≤ 9223372036854775807 then pilemake_Stream_CallOf.j10 k ((r1.1 ++ (⟨#[47]⟩ : ByteArray)) ++ r12.1) r12.2.1 r12.2.2 else Option.none)) else Option.none) else pilemake_Stream_CallOf.j10 k r1.1 r2.2.1 r2.2.2)))))
theorem pilemake_Stream_CallOf.loops (p0_0 : List Int) (p0_1 : Int) : ∀ k, (∀ (x4j12 : ByteArray) (o100000_0j12 : List Int) (o100000_1j12 : Int), RS (fam Tryd.f5 [10, 12] [] [(100000, .box [sq eI p0_0, .int .i64 p0_1])] (fun r : ByteArray × (List Int) × Int => .str r.1) (fun r => [(100000, .box [sq eI r.2.1, .int .i64 r.2.2])])) (Func.reg Tryd.f5 12) ⟨ofT [(4, .str x4j12)], ofL [(100000, .box [sq eI o100000_0j12, .int .i64 o100000_1j12])]⟩ (pilemake_Stream_CallOf.j12 k x4j12 o100000_0j12 o100000_1j12)) ∧ (∀ (x4j10 : ByteArray) (o100000_0j10 : List Int) (o100000_1j10 : Int), RS (fam Tryd.f5 [10, 12] [] [(100000, .box [sq eI p0_0, .int .i64 p0_1])] (fun r : ByteArray × (List Int) × Int => .str r.1) (fun r => [(100000, .box [sq eI r.2.1, .int .i64 r.2.2])])) (Func.reg Tryd.f5 10) ⟨ofT [(0, .ref 100000 0 0 0 2), (4, .str x4j10)], ofL [(100000, .box [sq eI o100000_0j10, .int .i64 o100000_1j10])]⟩ (pilemake_Stream_CallOf.j10 k x4j10 o100000_0j10 o100000_1j10))
  | 0 => ⟨by intro _ _ _; simp only [pilemake_Stream_CallOf.j12]; exact RS.none, by intro _ _ _; simp only [pilemake_Stream_CallOf.j10]; exact RS.none⟩
  | k + 1 => by
    have ih := pilemake_Stream_CallOf.loops p0_0 p0_1 k
    refine ⟨?_, ?_⟩
    · intro x4j12 o100000_0j12 o100000_1j12
      simp only [pilemake_Stream_CallOf.j12]
      refine RS.region ?_
      refine RS.go ?_
      exact RT.done rfl rfl (Le.refl _) ⟨⟨_, rfl, LeO.refl _⟩, trivial⟩ rfl (dom_of rfl)
    · intro x4j10 o100000_0j10 o100000_1j10
      simp only [pilemake_Stream_CallOf.j10]
      refine RS.region ?_
      refine RS.go ?_
      refine RT.call rfl (fun _ h => pilemake_Stream_Flip.ok k o100000_0j10 o100000_1j10 12 _ h) (fun i => bif Nat.beq i 100000 then 100000 else i) (LeL.eq rfl) ⟨⟨_, rfl, LeO.refl _⟩, trivial⟩ (fun _ => rfl) (fun r5 => ?_)
      refine RS.go ?_
      refine RT.brB rfl (fun c7 => ?_) (fun c7 => ?_)
      · refine RT.call rfl (fun _ h => pilemake_Stream_Changed.ok k r5.2.1 r5.2.2 x4j10 (⟨#[97, 48, 47, 107, 49, 45]⟩ : ByteArray) _ h) (fun i => bif Nat.beq i 100000 then 100000 else i) (LeL.eq rfl) ⟨⟨_, rfl, LeO.refl _⟩, trivial⟩ (fun _ => rfl) (fun r6 => ?_)
        refine RS.go ?_
        refine RT.goto rfl ?_
        refine RS.weak [(4, .str r6.1)] [(100000, .box [sq eI r6.2.1, .int .i64 r6.2.2])] ⟨Le.eq (by first | rfl | simp), trivial⟩ ⟨⟨_, rfl, LeO.refl _⟩, trivial⟩ rfl (dom_of rfl) ?_
        exact ih.1 r6.1 r6.2.1 r6.2.2 
      · refine RT.goto rfl ?_
        refine RS.weak [(4, .str x4j10)] [(100000, .box [sq eI r5.2.1, .int .i64 r5.2.2])] ⟨Le.eq (by first | rfl | simp), trivial⟩ ⟨⟨_, rfl, LeO.refl _⟩, trivial⟩ rfl (dom_of rfl) ?_
        exact ih.1 x4j10 r5.2.1 r5.2.2 
theorem pilemake_Stream_CallOf.ok (k : Nat) (p0_0 : List Int) (p0_1 : Int) (r : ByteArray × (List Int) × Int) (h : pilemake_Stream_CallOf.f k p0_0 p0_1 = some r) : Ct Tryd.prog B 5 [.ref 100000 0 0 0 2] (ofL [(100000, .box [sq eI p0_0, .int .i64 p0_1])]) (.str r.1) (ofL [(100000, .box [sq eI r.2.1, .int .i64 r.2.2])]) := by
  refine Ct.of (Y := (fam Tryd.f5 [10, 12] [] [(100000, .box [sq eI p0_0, .int .i64 p0_1])] (fun r : ByteArray × (List Int) × Int => .str r.1) (fun r => [(100000, .box [sq eI r.2.1, .int .i64 r.2.2])]))) Tryd.func5 rfl Tryd.call5 rfl rfl ?_ r h
  unfold pilemake_Stream_CallOf.f
  refine RS.go ?_
  refine RT.goto rfl ?_
  refine RS.slot 6 (sq eS [(⟨#[107, 49, 97, 98]⟩ : ByteArray), (⟨#[107, 52, 97, 98]⟩ : ByteArray), (⟨#[111, 104, 50, 97, 98, 99]⟩ : ByteArray), (⟨#[111, 104, 48, 120]⟩ : ByteArray), (⟨#[51, 100, 97, 48, 120, 121]⟩ : ByteArray), (⟨#[103, 51, 97]⟩ : ByteArray), (⟨#[100, 108, 49, 122, 122]⟩ : ByteArray), (⟨#[119, 49, 97, 119]⟩ : ByteArray), (⟨#[107, 49, 98, 97]⟩ : ByteArray)]) (Le.lit (E := eS) (l := [(⟨#[107, 49, 97, 98]⟩ : ByteArray), (⟨#[107, 52, 97, 98]⟩ : ByteArray), (⟨#[111, 104, 50, 97, 98, 99]⟩ : ByteArray), (⟨#[111, 104, 48, 120]⟩ : ByteArray), (⟨#[51, 100, 97, 48, 120, 121]⟩ : ByteArray), (⟨#[103, 51, 97]⟩ : ByteArray), (⟨#[100, 108, 49, 122, 122]⟩ : ByteArray), (⟨#[119, 49, 97, 119]⟩ : ByteArray), (⟨#[107, 49, 98, 97]⟩ : ByteArray)]) (cells_of rfl)) ?_
  refine RS.go ?_
  refine RT.call rfl (fun _ h => pilemake_Stream_Some.ok k p0_0 p0_1 [(⟨#[107, 49, 97, 98]⟩ : ByteArray), (⟨#[107, 52, 97, 98]⟩ : ByteArray), (⟨#[111, 104, 50, 97, 98, 99]⟩ : ByteArray), (⟨#[111, 104, 48, 120]⟩ : ByteArray), (⟨#[51, 100, 97, 48, 120, 121]⟩ : ByteArray), (⟨#[103, 51, 97]⟩ : ByteArray), (⟨#[100, 108, 49, 122, 122]⟩ : ByteArray), (⟨#[119, 49, 97, 119]⟩ : ByteArray), (⟨#[107, 49, 98, 97]⟩ : ByteArray)] _ h) (fun i => bif Nat.beq i 100000 then 100000 else i) (LeL.eq rfl) ⟨⟨_, rfl, LeO.refl _⟩, trivial⟩ (fun _ => rfl) (fun r1 => ?_)
  refine RS.go ?_
  refine RT.call rfl (fun _ h => pilemake_Stream_Next.ok k r1.2.1 r1.2.2 9 _ h) (fun i => bif Nat.beq i 100000 then 100000 else i) (LeL.eq rfl) ⟨⟨_, rfl, LeO.refl _⟩, trivial⟩ (fun _ => rfl) (fun r2 => ?_)
  refine RS.go ?_
  refine RT.br rfl (fun c16 => ?_) (fun c16 => ?_)
  · refine RT.goto rfl ?_
    refine RS.slot 15 (sq eS [(⟨#[47, 112]⟩ : ByteArray), (⟨#[47, 109]⟩ : ByteArray), (⟨#[47, 109, 109]⟩ : ByteArray), (⟨#[47, 97, 109]⟩ : ByteArray), (⟨#[47, 52]⟩ : ByteArray), (⟨#[47, 48]⟩ : ByteArray)]) (Le.lit (E := eS) (l := [(⟨#[47, 112]⟩ : ByteArray), (⟨#[47, 109]⟩ : ByteArray), (⟨#[47, 109, 109]⟩ : ByteArray), (⟨#[47, 97, 109]⟩ : ByteArray), (⟨#[47, 52]⟩ : ByteArray), (⟨#[47, 48]⟩ : ByteArray)]) (cells_of rfl)) ?_
    refine RS.go ?_
    refine RT.call rfl (fun _ h => pilemake_Stream_Some.ok k r2.2.1 r2.2.2 [(⟨#[47, 112]⟩ : ByteArray), (⟨#[47, 109]⟩ : ByteArray), (⟨#[47, 109, 109]⟩ : ByteArray), (⟨#[47, 97, 109]⟩ : ByteArray), (⟨#[47, 52]⟩ : ByteArray), (⟨#[47, 48]⟩ : ByteArray)] _ h) (fun i => bif Nat.beq i 100000 then 100000 else i) (LeL.eq rfl) ⟨⟨_, rfl, LeO.refl _⟩, trivial⟩ (fun _ => rfl) (fun r3 => ?_)
    refine RS.go ?_
    refine RT.br rfl (fun c4 => ?_) (fun c4 => RT.none)
    refine RT.goto rfl ?_
    refine RS.weak [(0, .ref 100000 0 0 0 2), (4, .str (r1.1 ++ r3.1))] [(100000, .box [sq eI r3.2.1, .int .i64 r3.2.2])] ⟨Le.eq (by first | rfl | simp), Le.eq (by first | rfl | simp), trivial⟩ ⟨⟨_, rfl, LeO.refl _⟩, trivial⟩ rfl (dom_of rfl) ?_
    exact (pilemake_Stream_CallOf.loops p0_0 p0_1 k).2 (r1.1 ++ r3.1) r3.2.1 r3.2.2 
  · refine RT.br rfl (fun c15 => ?_) (fun c15 => ?_)
    · refine RT.goto rfl ?_
      refine RS.slot 21 (sq eS [(⟨#[111, 104, 48]⟩ : ByteArray), (⟨#[103]⟩ : ByteArray), (⟨#[51, 97]⟩ : ByteArray), (⟨#[100, 108]⟩ : ByteArray)]) (Le.lit (E := eS) (l := [(⟨#[111, 104, 48]⟩ : ByteArray), (⟨#[103]⟩ : ByteArray), (⟨#[51, 97]⟩ : ByteArray), (⟨#[100, 108]⟩ : ByteArray)]) (cells_of rfl)) ?_
      refine RS.go ?_
      refine RT.call rfl (fun _ h => pilemake_Stream_Some.ok k r2.2.1 r2.2.2 [(⟨#[111, 104, 48]⟩ : ByteArray), (⟨#[103]⟩ : ByteArray), (⟨#[51, 97]⟩ : ByteArray), (⟨#[100, 108]⟩ : ByteArray)] _ h) (fun i => bif Nat.beq i 100000 then 100000 else i) (LeL.eq rfl) ⟨⟨_, rfl, LeO.refl _⟩, trivial⟩ (fun _ => rfl) (fun r8 => ?_)
      refine RS.go ?_
      refine RT.br rfl (fun c9 => ?_) (fun c9 => RT.none)
      refine RT.br rfl (fun c10 => ?_) (fun c10 => RT.none)
      refine RT.goto rfl ?_
      refine RS.weak [(0, .ref 100000 0 0 0 2), (4, .str ((r8.1 ++ (⟨#[47]⟩ : ByteArray)) ++ r1.1))] [(100000, .box [sq eI r8.2.1, .int .i64 r8.2.2])] ⟨Le.eq (by first | rfl | simp), Le.eq (by first | rfl | simp), trivial⟩ ⟨⟨_, rfl, LeO.refl _⟩, trivial⟩ rfl (dom_of rfl) ?_
      exact (pilemake_Stream_CallOf.loops p0_0 p0_1 k).2 ((r8.1 ++ (⟨#[47]⟩ : ByteArray)) ++ r1.1) r8.2.1 r8.2.2 
    · refine RT.br rfl (fun c14 => ?_) (fun c14 => ?_)
      · refine RT.br rfl (fun c11 => ?_) (fun c11 => RT.none)
        refine RT.goto rfl ?_
        refine RS.slot 31 (sq eS [(⟨#[111, 104, 48]⟩ : ByteArray), (⟨#[103]⟩ : ByteArray), (⟨#[119, 50, 98]⟩ : ByteArray), (⟨#[107]⟩ : ByteArray)]) (Le.lit (E := eS) (l := [(⟨#[111, 104, 48]⟩ : ByteArray), (⟨#[103]⟩ : ByteArray), (⟨#[119, 50, 98]⟩ : ByteArray), (⟨#[107]⟩ : ByteArray)]) (cells_of rfl)) ?_
        refine RS.go ?_
        refine RT.call rfl (fun _ h => pilemake_Stream_Some.ok k r2.2.1 r2.2.2 [(⟨#[111, 104, 48]⟩ : ByteArray), (⟨#[103]⟩ : ByteArray), (⟨#[119, 50, 98]⟩ : ByteArray), (⟨#[107]⟩ : ByteArray)] _ h) (fun i => bif Nat.beq i 100000 then 100000 else i) (LeL.eq rfl) ⟨⟨_, rfl, LeO.refl _⟩, trivial⟩ (fun _ => rfl) (fun r12 => ?_)
        refine RS.go ?_
        refine RT.br rfl (fun c13 => ?_) (fun c13 => RT.none)
        refine RT.goto rfl ?_
        refine RS.weak [(0, .ref 100000 0 0 0 2), (4, .str ((r1.1 ++ (⟨#[47]⟩ : ByteArray)) ++ r12.1))] [(100000, .box [sq eI r12.2.1, .int .i64 r12.2.2])] ⟨Le.eq (by first | rfl | simp), Le.eq (by first | rfl | simp), trivial⟩ ⟨⟨_, rfl, LeO.refl _⟩, trivial⟩ rfl (dom_of rfl) ?_
        exact (pilemake_Stream_CallOf.loops p0_0 p0_1 k).2 ((r1.1 ++ (⟨#[47]⟩ : ByteArray)) ++ r12.1) r12.2.1 r12.2.2 
      · refine RT.goto rfl ?_
        refine RS.weak [(0, .ref 100000 0 0 0 2), (4, .str r1.1)] [(100000, .box [sq eI r2.2.1, .int .i64 r2.2.2])] ⟨Le.eq (by first | rfl | simp), Le.eq (by first | rfl | simp), trivial⟩ ⟨⟨_, rfl, LeO.refl _⟩, trivial⟩ rfl (dom_of rfl) ?_
        exact (pilemake_Stream_CallOf.loops p0_0 p0_1 k).2 r1.1 r2.2.1 r2.2.2 
def strings_Cut.f (a0 : ByteArray) (a1 : ByteArray) : Option (ByteArray × ByteArray × Bool) := if a0.size < 4294967281 then some ((⟨(Lib.cut a0.data.toList a1.data.toList).1.toArray⟩, ⟨(Lib.cut a0.data.toList a1.data.toList).2.1.toArray⟩, (Lib.cut a0.data.toList a1.data.toList).2.2) : ByteArray × ByteArray × Bool) else none
theorem strings_Cut.ok (a0 : ByteArray) (a1 : ByteArray) (r : ByteArray × ByteArray × Bool) (h : strings_Cut.f a0 a1 = some r) : Ct Tryd.prog B 19 [.str a0, .str a1] (ofL []) (.tup [.str r.1, .str r.2.1, .bool r.2.2]) (ofL []) := by
  unfold strings_Cut.f at h
  split at h
  case isFalse => cases h
  case isTrue c =>
  cases h
  refine Ct.lib Tryd.call19 rfl rfl fun g w hb => (((hbML hb).elim fun m hm => Tryd.strings_Cut a0 a1 m w c hm)).mono fun e w' ⟨he, hw⟩ => ⟨he, (by obtain ⟨n, rfl⟩ := hw; exact ⟨rfl, rfl, rfl, Nat.le_refl _, fun _ _ => rfl⟩)⟩

def strings_IndexRune.f (a0 : ByteArray) (a1 : Int) : Option (Int) := if 0 ≤ a1 ∧ a1 < 128 then some (Lib.indexByte a0.data.toList a1.toNat.toUInt8) else none
theorem strings_IndexRune.ok (a0 : ByteArray) (a1 : Int) (r : Int) (h : strings_IndexRune.f a0 a1 = some r) : Ct Tryd.prog B 46 [.str a0, .int .i32 a1] (ofL []) (.int .i64 r) (ofL []) := by
  unfold strings_IndexRune.f at h
  split at h
  case isFalse => cases h
  case isTrue c =>
  cases h
  refine Ct.lib Tryd.call46 rfl rfl fun g w hb => (Tryd.strings_IndexRune_ascii a0 a1 w c.1 c.2).mono fun e w' ⟨he, hw⟩ => ⟨he, hw ▸ Below.refl _ _⟩

/-! ### strings_shouldUseASCIISet: function 47 -/
def strings_shouldUseASCIISet.f (a0 : Int) : Option (Bool) := Option.some (decide (a0 > 8))
theorem strings_shouldUseASCIISet.ok (a0 : Int) (r : Bool) (h : strings_shouldUseASCIISet.f a0 = some r) : Ct Tryd.prog B 47 [.int .i64 a0] (ofL []) (.bool r) (ofL []) := by
  refine Ct.of (Y := (fam Tryd.f47 [] [] [] (fun r : Bool => .bool r) (fun r => []))) Tryd.func47 rfl Tryd.call47 rfl rfl ?_ r h
  unfold strings_shouldUseASCIISet.f
  refine RS.go ?_
  exact RT.done rfl rfl (Le.refl _) trivial rfl (dom0 rfl)
/-! ### unicode_utf8_decodeRuneInStringSlow: function 82 -/
def unicode_utf8_decodeRuneInStringSlow.f (a0 : ByteArray) : Option (Int × Int) := (if (a0.size : Int) < 1 then Option.some (65533, 0) else Option.none)
theorem unicode_utf8_decodeRuneInStringSlow.ok (a0 : ByteArray) (r : Int × Int) (h : unicode_utf8_decodeRuneInStringSlow.f a0 = some r) : Ct Tryd.prog B 82 [.str a0] (ofL []) (.tup [.int .i32 r.1, .int .i64 r.2]) (ofL []) := by
  refine Ct.of (Y := (fam Tryd.f82 [] [] [] (fun r : Int × Int => .tup [.int .i32 r.1, .int .i64 r.2]) (fun r => []))) Tryd.func82 rfl Tryd.call82 rfl rfl ?_ r h
  unfold unicode_utf8_decodeRuneInStringSlow.f
  refine RS.go ?_
  refine RT.br rfl (fun c2 => ?_) (fun c2 => ?_)
  · exact RT.done rfl rfl (Le.tup (LeL.cons (Le.refl _) (LeL.cons (Le.refl _) (LeL.nil)))) trivial rfl (dom0 rfl)
  · exact RT.none
/-! ### unicode_utf8_DecodeRuneInString: function 69 -/
def unicode_utf8_DecodeRuneInString.f (a0 : ByteArray) : Option (Int × Int) := (if a0 = (⟨#[]⟩ : ByteArray) then ((unicode_utf8_decodeRuneInStringSlow.f a0).bind fun r5 => Option.some (r5.1, r5.2)) else (if 0 < (a0.size : Int) then (if bt a0 0 < 128 then (if 0 < (a0.size : Int) then Option.some (IntKind.i32.wrap (bt a0 0), 1) else Option.none) else ((unicode_utf8_decodeRuneInStringSlow.f a0).bind fun r3 => Option.some (r3.1, r3.2))) else Option.none))
theorem unicode_utf8_DecodeRuneInString.ok (a0 : ByteArray) (r : Int × Int) (h : unicode_utf8_DecodeRuneInString.f a0 = some r) : Ct Tryd.prog B 69 [.str a0] (ofL []) (.tup [.int .i32 r.1, .int .i64 r.2]) (ofL []) := by
  refine Ct.of (Y := (fam Tryd.f69 [] [] [] (fun r : Int × Int => .tup [.int .i32 r.1, .int .i64 r.2]) (fun r => []))) Tryd.func69 rfl Tryd.call69 rfl rfl ?_ r h
  unfold unicode_utf8_DecodeRuneInString.f
  refine RS.go ?_
  refine RT.brN rfl (fun c6 => ?_) (fun c6 => ?_)
  · refine RT.brF rfl ?_
    refine RT.brF rfl ?_
    refine RT.brF rfl ?_
    refine RT.brF rfl ?_
    refine RT.call0 rfl (fun _ h => unicode_utf8_decodeRuneInStringSlow.ok a0 _ h) (LeL.eq rfl) (fun _ => rfl) (fun r5 => ?_)
    refine RS.go ?_
    exact RT.done rfl rfl (Le.tup (LeL.cons (Le.refl _) (LeL.cons (Le.refl _) (LeL.nil)))) trivial rfl (dom0 rfl)
  · refine RT.brT rfl ?_
    refine RT.brT rfl ?_
    refine RT.br rfl (fun c1 => ?_) (fun c1 => RT.none)
    refine RT.brT rfl ?_
    refine RT.brT rfl ?_
    refine RT.br rfl (fun c4 => ?_) (fun c4 => ?_)
    · refine RT.brT rfl ?_
      refine RT.br rfl (fun c2 => ?_) (fun c2 => RT.none)
      exact RT.done rfl rfl (Le.tup (LeL.cons (Le.refl _) (LeL.cons (Le.refl _) (LeL.nil)))) trivial rfl (dom0 rfl)
    · refine RT.call0 rfl (fun _ h => unicode_utf8_decodeRuneInStringSlow.ok a0 _ h) (LeL.eq rfl) (fun _ => rfl) (fun r3 => ?_)
      refine RS.go ?_
      exact RT.done rfl rfl (Le.tup (LeL.cons (Le.refl _) (LeL.cons (Le.refl _) (LeL.nil)))) trivial rfl (dom0 rfl)
/-! ### unicode_utf8_DecodeLastRuneInString: function 50 -/
mutual
def unicode_utf8_DecodeLastRuneInString.j15 : Nat → ByteArray → Int → Option (Int × Int)
  | 0, _, _ => Option.none
  | k + 1, a0, x5j15 => (if 0 ≤ (a0.size : Int) then (if (a0.size : Int) ≤ (a0.size : Int) then (if 0 ≤ x5j15 then (if x5j15 ≤ (a0.size : Int) then ((unicode_utf8_DecodeRuneInString.f (a0.extract (x5j15).toNat ((a0.size : Int)).toNat)).bind fun r9 => (if wrap64 (x5j15 + r9.2) = (a0.size : Int) then Option.some (r9.1, r9.2) else Option.some (65533, 1))) else Option.none) else Option.none) else Option.none) else Option.none)
def unicode_utf8_DecodeLastRuneInString.l0 : Nat → ByteArray → Option (Int × Int)
  | 0, _ => Option.none
  | k + 1, a0 => (if wrap64 ((wrap64 ((a0.size : Int) - 1)) - 1) ≥ mx (wrap64 ((a0.size : Int) - 4)) 0 then Option.none else (if wrap64 ((wrap64 ((a0.size : Int) - 1)) - 1) < 0 then unicode_utf8_DecodeLastRuneInString.j15 k a0 0 else unicode_utf8_DecodeLastRuneInString.j15 k a0 (wrap64 ((wrap64 ((a0.size : Int) - 1)) - 1))))
end
def unicode_utf8_DecodeLastRuneInString.f (k : Nat) (a0 : ByteArray) : Option (Int × Int) := (if (a0.size : Int) = 0 then Option.some (65533, 0) else (if 0 ≤ wrap64 ((a0.size : Int) - 1) then (if wrap64 ((a0.size : Int) - 1) < (a0.size : Int) then (if IntKind.i32.wrap (bt a0 (wrap64 ((a0.size : Int) - 1))) < 128 then Option.some (IntKind.i32.wrap (bt a0 (wrap64 ((a0.size : Int) - 1))), 1) else unicode_utf8_DecodeLastRuneInString.l0 k a0) else Option.none) else Option.none))
theorem unicode_utf8_DecodeLastRuneInString.loops : ∀ k, (∀ (a0 : ByteArray) (x5j15 : Int), RS (fam Tryd.f50 [15] [] [] (fun r : Int × Int => .tup [.int .i32 r.1, .int .i64 r.2]) (fun r => [])) (Func.reg Tryd.f50 15) ⟨ofT [(0, .str a0), (4, .int .i64 (a0.size : Int)), (5, .int .i64 x5j15)], ofL []⟩ (unicode_utf8_DecodeLastRuneInString.j15 k a0 x5j15)) ∧ (∀ (a0 : ByteArray), RS (fam Tryd.f50 [15] [] [] (fun r : Int × Int => .tup [.int .i32 r.1, .int .i64 r.2]) (fun r => [])) (Func.head Tryd.f50 0) ⟨ofT [(0, .str a0), (4, .int .i64 (a0.size : Int)), (5, .int .i64 (wrap64 ((wrap64 ((a0.size : Int) - 1)) - 1))), (6, .int .i64 (mx (wrap64 ((a0.size : Int) - 4)) 0))], ofL []⟩ (unicode_utf8_DecodeLastRuneInString.l0 k a0))
  | 0 => ⟨by intro _ _; simp only [unicode_utf8_DecodeLastRuneInString.j15]; exact RS.none, by intro _; simp only [unicode_utf8_DecodeLastRuneInString.l0]; exact RS.none⟩
  | k + 1 => by
    have ih := unicode_utf8_DecodeLastRuneInString.loops k
    refine ⟨?_, ?_⟩
    · intro a0 x5j15
      simp only [unicode_utf8_DecodeLastRuneInString.j15]
      refine RS.region ?_
      refine RS.go ?_
      refine RT.br rfl (fun c5 => ?_) (fun c5 => RT.none)
      refine RT.br rfl (fun c6 => ?_) (fun c6 => RT.none)
      refine RT.br rfl (fun c7 => ?_) (fun c7 => RT.none)
      refine RT.br rfl (fun c8 => ?_) (fun c8 => RT.none)
      refine RT.call0 rfl (fun _ h => unicode_utf8_DecodeRuneInString.ok (a0.extract (x5j15).toNat ((a0.size : Int)).toNat) _ h) (LeL.eq rfl) (fun _ => rfl) (fun r9 => ?_)
      refine RS.go ?_
      refine RT.brN rfl (fun c10 => ?_) (fun c10 => ?_)
      · exact RT.done rfl rfl (Le.tup (LeL.cons (Le.refl _) (LeL.cons (Le.refl _) (LeL.nil)))) trivial rfl (dom0 rfl)
      · exact RT.done rfl rfl (Le.tup (LeL.cons (Le.refl _) (LeL.cons (Le.refl _) (LeL.nil)))) trivial rfl (dom0 rfl)
    · intro a0
      simp only [unicode_utf8_DecodeLastRuneInString.l0]
      refine RS.go ?_
      refine RT.br rfl (fun c12 => ?_) (fun c12 => ?_)
      · exact RT.none
      · refine RT.br rfl (fun c11 => ?_) (fun c11 => ?_)
        · refine RT.goto rfl ?_
          refine RS.weak [(0, .str a0), (4, .int .i64 (a0.size : Int)), (5, .int .i64 0)] [] ⟨Le.eq (by first | rfl | simp), Le.eq (by first | rfl | simp), Le.eq (by first | rfl | simp), trivial⟩ trivial rfl (dom0 rfl) ?_
          exact ih.1 a0 0 
        · refine RT.goto rfl ?_
          refine RS.weak [(0, .str a0), (4, .int .i64 (a0.size : Int)), (5, .int .i64 (wrap64 ((wrap64 ((a0.size : Int) - 1)) - 1)))] [] ⟨Le.eq (by first | rfl | simp), Le.eq (by first | rfl | simp), Le.eq (by first | rfl | simp), trivial⟩ trivial rfl (dom0 rfl) ?_
          exact ih.1 a0 (wrap64 ((wrap64 ((a0.size : Int) - 1)) - 1)) 
theorem unicode_utf8_DecodeLastRuneInString.ok (k : Nat) (a0 : ByteArray) (r : Int × Int) (h : unicode_utf8_DecodeLastRuneInString.f k a0 = some r) : Ct Tryd.prog B 50 [.str a0] (ofL []) (.tup [.int .i32 r.1, .int .i64 r.2]) (ofL []) := by
  refine Ct.of (Y := (fam Tryd.f50 [15] [] [] (fun r : Int × Int => .tup [.int .i32 r.1, .int .i64 r.2]) (fun r => []))) Tryd.func50 rfl Tryd.call50 rfl rfl ?_ r h
  unfold unicode_utf8_DecodeLastRuneInString.f
  refine RS.go ?_
  refine RT.br rfl (fun c14 => ?_) (fun c14 => ?_)
  · exact RT.done rfl rfl (Le.tup (LeL.cons (Le.refl _) (LeL.cons (Le.refl _) (LeL.nil)))) trivial rfl (dom0 rfl)
  · refine RT.br rfl (fun c1 => ?_) (fun c1 => RT.none)
    refine RT.br rfl (fun c2 => ?_) (fun c2 => RT.none)
    refine RT.br rfl (fun c13 => ?_) (fun c13 => ?_)
    · exact RT.done rfl rfl (Le.tup (LeL.cons (Le.refl _) (LeL.cons (Le.refl _) (LeL.nil)))) trivial rfl (dom0 rfl)
    · refine RT.goto rfl ?_
      refine RS.weak [(0, .str a0), (4, .int .i64 (a0.size : Int)), (5, .int .i64 (wrap64 ((wrap64 ((a0.size : Int) - 1)) - 1))), (6, .int .i64 (mx (wrap64 ((a0.size : Int) - 4)) 0))] [] ⟨Le.eq (by first | rfl | simp), Le.eq (by first | rfl | simp), Le.eq (by first | rfl | simp), Le.eq (by first | rfl | simp), trivial⟩ trivial rfl (dom0 rfl) ?_
      exact (unicode_utf8_DecodeLastRuneInString.loops k).2 a0 
/-! ### strings_LastIndexAny_s: function 31 -/
mutual
def strings_LastIndexAny_s.j7 : Nat → ByteArray → Int → Option (Int)
  | 0, _, _ => Option.none
  | k + 1, a1, x5j7 => ((strings_IndexRune.f a1 x5j7).bind fun r2 => (if r2 ≥ 0 then Option.some 0 else Option.some (-1)))
def strings_LastIndexAny_s.l1 : Nat → ByteArray → Int → Int → Option (Int)
  | 0, _, _, _ => Option.none
  | k + 1, a0, x9j23, x10b => (if x10b > 0 then (if 0 ≤ x10b then (if x10b ≤ (a0.size : Int) then ((unicode_utf8_DecodeLastRuneInString.f k (a0.extract 0 (x10b).toNat)).bind fun r9 => (if x9j23 = r9.1 then Option.some (wrap64 (x10b - r9.2)) else strings_LastIndexAny_s.l1 k a0 x9j23 (wrap64 (x10b - r9.2)))) else Option.none) else Option.none) else Option.some (-1))
def strings_LastIndexAny_s.j23 : Nat → ByteArray → Int → Option (Int)
  | 0, _, _ => Option.none
  | k + 1, a0, x9j23 => strings_LastIndexAny_s.l1 k a0 x9j23 (a0.size : Int)
def strings_LastIndexAny_s.l2 : Nat → ByteArray → ByteArray → Int → Option (Int)
  | 0, _, _, _ => Option.none
  | k + 1, a0, a1, x13c => (if x13c > 0 then (if 0 ≤ x13c then (if x13c ≤ (a0.size : Int) then ((unicode_utf8_DecodeLastRuneInString.f k (a0.extract 0 (x13c).toNat)).bind fun r15 => ((strings_IndexRune.f a1 r15.1).bind fun r16 => (if r16 ≥ 0 then Option.some (wrap64 (x13c - r15.2)) else strings_LastIndexAny_s.l2 k a0 a1 (wrap64 (x13c - r15.2))))) else Option.none) else Option.none) else Option.some (-1))
def strings_LastIndexAny_s.j19 : Nat → ByteArray → ByteArray → Option (Int)
  | 0, _, _ => Option.none
  | k + 1, a0, a1 => (if (a1.size : Int) = 1 then (if 0 < (a1.size : Int) then (if IntKind.i32.wrap (bt a1 0) ≥ 128 then strings_LastIndexAny_s.j23 k a0 65533 else strings_LastIndexAny_s.j23 k a0 (IntKind.i32.wrap (bt a1 0))) else Option.none) else strings_LastIndexAny_s.l2 k a0 a1 (a0.size : Int))
end
def strings_LastIndexAny_s.f (k : Nat) (a0 : ByteArray) (a1 : ByteArray) : Option (Int) := (if a1 = (⟨#[]⟩ : ByteArray) then Option.some (-1) else (if (a0.size : Int) = 1 then (if 0 < (a0.size : Int) then (if IntKind.i32.wrap (bt a0 0) ≥ 128 then strings_LastIndexAny_s.j7 k a1 65533 else strings_LastIndexAny_s.j7 k a1 (IntKind.i32.wrap (bt a0 0))) else Option.none) else ((strings_shouldUseASCIISet.f (a0.size : Int)).bind fun r5 => (if r5 = true then Option.none else strings_LastIndexAny_s.j19 k a0 a1))))
theorem strings_LastIndexAny_s.loops : ∀ k, (∀ (a1 : ByteArray) (x5j7 : Int), RS (fam Tryd.f31 [7, 19, 23] [] [] (fun r : Int => .int .i64 r) (fun r => [])) (Func.reg Tryd.f31 7) ⟨ofT [(1, .str a1), (5, .int .i32 x5j7)], ofL []⟩ (strings_LastIndexAny_s.j7 k a1 x5j7)) ∧ (∀ (a0 : ByteArray) (x9j23 : Int) (x10b : Int), RS (fam Tryd.f31 [7, 19, 23] [] [] (fun r : Int => .int .i64 r) (fun r => [])) (Func.head Tryd.f31 1) ⟨ofT [(0, .str a0), (9, .int .i32 x9j23), (10, .int .i64 x10b)], ofL []⟩ (strings_LastIndexAny_s.l1 k a0 x9j23 x10b)) ∧ (∀ (a0 : ByteArray) (x9j23 : Int), RS (fam Tryd.f31 [7, 19, 23] [] [] (fun r : Int => .int .i64 r) (fun r => [])) (Func.reg Tryd.f31 23) ⟨ofT [(0, .str a0), (9, .int .i32 x9j23)], ofL []⟩ (strings_LastIndexAny_s.j23 k a0 x9j23)) ∧ (∀ (a0 : ByteArray) (a1 : ByteArray) (x13c : Int), RS (fam Tryd.f31 [7, 19, 23] [] [] (fun r : Int => .int .i64 r) (fun r => [])) (Func.head Tryd.f31 2) ⟨ofT [(0, .str a0), (1, .str a1), (13, .int .i64 x13c)], ofL []⟩ (strings_LastIndexAny_s.l2 k a0 a1 x13c)) ∧ (∀ (a0 : ByteArray) (a1 : ByteArray), RS (fam Tryd.f31 [7, 19, 23] [] [] (fun r : Int => .int .i64 r) (fun r => [])) (Func.reg Tryd.f31 19) ⟨ofT [(0, .str a0), (1, .str a1)], ofL []⟩ (strings_LastIndexAny_s.j19 k a0 a1))
  | 0 => ⟨by intro _ _; simp only [strings_LastIndexAny_s.j7]; exact RS.none, by intro _ _ _; simp only [strings_LastIndexAny_s.l1]; exact RS.none, by intro _ _; simp only [strings_LastIndexAny_s.j23]; exact RS.none, by intro _ _ _; simp only [strings_LastIndexAny_s.l2]; exact RS.none, by intro _ _; simp only [strings_LastIndexAny_s.j19]; exact RS.none⟩
  | k + 1 => by
    have ih := strings_LastIndexAny_s.loops k
    refine ⟨?_, ?_, ?_, ?_, ?_⟩
    · intro a1 x5j7
      simp only [strings_LastIndexAny_s.j7]
      refine RS.region ?_
      refine RS.go ?_
      refine RT.call0 rfl (fun _ h => strings_IndexRune.ok a1 x5j7 _ h) (LeL.eq rfl) (fun _ => rfl) (fun r2 => ?_)
      refine RS.go ?_
      refine RT.br rfl (fun c3 => ?_) (fun c3 => ?_)
      · exact RT.done rfl rfl (Le.refl _) trivial rfl (dom0 rfl)
      · exact RT.done rfl rfl (Le.refl _) trivial rfl (dom0 rfl)
    · intro a0 x9j23 x10b
      simp only [strings_LastIndexAny_s.l1]
      refine RS.go ?_
      refine RT.br rfl (fun c11 => ?_) (fun c11 => ?_)
      · refine RT.br rfl (fun c7 => ?_) (fun c7 => RT.none)
        refine RT.br rfl (fun c8 => ?_) (fun c8 => RT.none)
        refine RT.call0 rfl (fun _ h => unicode_utf8_DecodeLastRuneInString.ok k (a0.extract 0 (x10b).toNat) _ h) (LeL.eq rfl) (fun _ => rfl) (fun r9 => ?_)
        refine RS.go ?_
        refine RT.br rfl (fun c10 => ?_) (fun c10 => ?_)
        · exact RT.done rfl rfl (Le.refl _) trivial rfl (dom0 rfl)
        · refine RT.goto rfl ?_
          refine RS.weak [(0, .str a0), (9, .int .i32 x9j23), (10, .int .i64 (wrap64 (x10b - r9.2)))] [] ⟨Le.eq (by first | rfl | simp), Le.eq (by first | rfl | simp), Le.eq (by first | rfl | simp), trivial⟩ trivial rfl (dom0 rfl) ?_
          exact ih.2.1 a0 x9j23 (wrap64 (x10b - r9.2)) 
      · exact RT.done rfl rfl (Le.refl _) trivial rfl (dom0 rfl)
    · intro a0 x9j23
      simp only [strings_LastIndexAny_s.j23]
      refine RS.region ?_
      refine RS.go ?_
      refine RT.goto rfl ?_
      refine RS.weak [(0, .str a0), (9, .int .i32 x9j23), (10, .int .i64 (a0.size : Int))] [] ⟨Le.eq (by first | rfl | simp), Le.eq (by first | rfl | simp), Le.eq (by first | rfl | simp), trivial⟩ trivial rfl (dom0 rfl) ?_
      exact ih.2.1 a0 x9j23 (a0.size : Int) 
    · intro a0 a1 x13c
      simp only [strings_LastIndexAny_s.l2]
      refine RS.go ?_
      refine RT.br rfl (fun c18 => ?_) (fun c18 => ?_)
      · refine RT.br rfl (fun c13 => ?_) (fun c13 => RT.none)
        refine RT.br rfl (fun c14 => ?_) (fun c14 => RT.none)
        refine RT.call0 rfl (fun _ h => unicode_utf8_DecodeLastRuneInString.ok k (a0.extract 0 (x13c).toNat) _ h) (LeL.eq rfl) (fun _ => rfl) (fun r15 => ?_)
        refine RS.go ?_
        refine RT.call0 rfl (fun _ h => strings_IndexRune.ok a1 r15.1 _ h) (LeL.eq rfl) (fun _ => rfl) (fun r16 => ?_)
        refine RS.go ?_
        refine RT.br rfl (fun c17 => ?_) (fun c17 => ?_)
        · exact RT.done rfl rfl (Le.refl _) trivial rfl (dom0 rfl)
        · refine RT.goto rfl ?_
          refine RS.weak [(0, .str a0), (1, .str a1), (13, .int .i64 (wrap64 (x13c - r15.2)))] [] ⟨Le.eq (by first | rfl | simp), Le.eq (by first | rfl | simp), Le.eq (by first | rfl | simp), trivial⟩ trivial rfl (dom0 rfl) ?_
          exact ih.2.2.2.1 a0 a1 (wrap64 (x13c - r15.2)) 
      · exact RT.done rfl rfl (Le.refl _) trivial rfl (dom0 rfl)
    · intro a0 a1
      simp only [strings_LastIndexAny_s.j19]
      refine RS.region ?_
      refine RS.go ?_
      refine RT.br rfl (fun c19 => ?_) (fun c19 => ?_)
      · refine RT.brT rfl ?_
        refine RT.br rfl (fun c6 => ?_) (fun c6 => RT.none)
        refine RT.br rfl (fun c12 => ?_) (fun c12 => ?_)
        · refine RT.goto rfl ?_
          refine RS.weak [(0, .str a0), (9, .int .i32 65533)] [] ⟨Le.eq (by first | rfl | simp), Le.eq (by first | rfl | simp), trivial⟩ trivial rfl (dom0 rfl) ?_
          exact ih.2.2.1 a0 65533 
        · refine RT.goto rfl ?_
          refine RS.weak [(0, .str a0), (9, .int .i32 (IntKind.i32.wrap (bt a1 0)))] [] ⟨Le.eq (by first | rfl | simp), Le.eq (by first | rfl | simp), trivial⟩ trivial rfl (dom0 rfl) ?_
          exact ih.2.2.1 a0 (IntKind.i32.wrap (bt a1 0)) 
      · refine RT.goto rfl ?_
        refine RS.weak [(0, .str a0), (1, .str a1), (13, .int .i64 (a0.size : Int))] [] ⟨Le.eq (by first | rfl | simp), Le.eq (by first | rfl | simp), Le.eq (by first | rfl | simp), trivial⟩ trivial rfl (dom0 rfl) ?_
        exact ih.2.2.2.1 a0 a1 (a0.size : Int) 
theorem strings_LastIndexAny_s.ok (k : Nat) (a0 : ByteArray) (a1 : ByteArray) (r : Int) (h : strings_LastIndexAny_s.f k a0 a1 = some r) : Ct Tryd.prog B 31 [.str a0, .str a1] (ofL []) (.int .i64 r) (ofL []) := by
  refine Ct.of (Y := (fam Tryd.f31 [7, 19, 23] [] [] (fun r : Int => .int .i64 r) (fun r => []))) Tryd.func31 rfl Tryd.call31 rfl rfl ?_ r h
  unfold strings_LastIndexAny_s.f
  refine RS.go ?_
  refine RT.br rfl (fun c22 => ?_) (fun c22 => ?_)
  · exact RT.done rfl rfl (Le.refl _) trivial rfl (dom0 rfl)
  · refine RT.br rfl (fun c21 => ?_) (fun c21 => ?_)
    · refine RT.brT rfl ?_
      refine RT.br rfl (fun c1 => ?_) (fun c1 => RT.none)
      refine RT.br rfl (fun c4 => ?_) (fun c4 => ?_)
      · refine RT.goto rfl ?_
        refine RS.weak [(1, .str a1), (5, .int .i32 65533)] [] ⟨Le.eq (by first | rfl | simp), Le.eq (by first | rfl | simp), trivial⟩ trivial rfl (dom0 rfl) ?_
        exact (strings_LastIndexAny_s.loops k).1 a1 65533 
      · refine RT.goto rfl ?_
        refine RS.weak [(1, .str a1), (5, .int .i32 (IntKind.i32.wrap (bt a0 0)))] [] ⟨Le.eq (by first | rfl | simp), Le.eq (by first | rfl | simp), trivial⟩ trivial rfl (dom0 rfl) ?_
        exact (strings_LastIndexAny_s.loops k).1 a1 (IntKind.i32.wrap (bt a0 0)) 
    · refine RT.call0 rfl (fun _ h => strings_shouldUseASCIISet.ok (a0.size : Int) _ h) (LeL.eq rfl) (fun _ => rfl) (fun r5 => ?_)
      refine RS.go ?_
      refine RT.brB rfl (fun c20 => ?_) (fun c20 => ?_)
      · exact RT.none
      · refine RT.goto rfl ?_
        refine RS.weak [(0, .str a0), (1, .str a1)] [] ⟨Le.eq (by first | rfl | simp), Le.eq (by first | rfl | simp), trivial⟩ trivial rfl (dom0 rfl) ?_
        exact (strings_LastIndexAny_s.loops k).2.2.2.2 a0 a1 
def sMake.f (a0 : ByteArray) : Option ByteArray := if a0.size < 4294967281 ∧ asciiT a0 = true then some a0 else none
theorem sMake.ok (a0 r : ByteArray) (h : sMake.f a0 = some r) : Ct Tryd.prog B 48 [.str a0] (ofL []) (.tup [.agg (setA r), .bool true]) (ofL []) := by
  unfold sMake.f at h
  split at h
  case isFalse => cases h
  case isTrue c =>
  cases h
  refine Ct.libR (u := .tuple #[.agg (Lib.setCells a0.data.toList), .bool true]) Tryd.call48 rfl (fun g sz w => ?_) fun g w hb => (Tryd.strings_makeASCIISet (zero_of_info (n := 256) (by kernel_rfl)).1 a0 w c.1 (asciiT_at c.2)).mono fun e w' ⟨he, hw⟩ => ⟨he, ?_⟩
  · refine .tup _ _ rfl fun i hi => ?_
    rcases (by simp at hi; omega : i = 0 ∨ i = 1) with rfl | rfl
    · refine .agg _ _ ?_ fun j hj => ?_
      · rw [Lib.setCells_size, setA_len]
      · rw [setA_len] at hj
        rw [Lib.setCells_eq]
        simp only [setA, List.getD, List.getElem?_map, List.getElem?_range hj, Option.map_some, Option.getD_some]
        have : (Array.map (fun j => Value.bool (a0.data.toList.contains (UInt8.ofNat j))) (Array.range 256)).getD j undef = .bool (a0.data.toList.contains (UInt8.ofNat j)) := by simp [Array.getD, hj]
        rw [this]
        exact R.bool _
    · exact R.bool _
  · rw [hw]
    exact (Below.refl _ _).alloc (Nat.le_refl _) _

/-- the set lent: is a byte in it? -/
def sHas.f (a0 : ByteArray) (a1 : Int) : Option Bool := if 0 ≤ a1 ∧ a1 < 256 then some (a0.data.toList.contains (UInt8.ofNat a1.toNat)) else none
theorem sHas.ok (a0 : ByteArray) (a1 : Int) (r : Bool) (h : sHas.f a0 a1 = some r) : Ct Tryd.prog B 49 [.ref 0 0 0 0 256, .int .u8 a1] (ofL [(0, .box (setA a0))]) (.bool r) (ofL [(0, .box (setA a0))]) := by
  unfold sHas.f at h
  split at h
  case isFalse => cases h
  case isTrue c =>
  cases h
  intro g w vs hs hr hO hB
  unfold Ent
  rw [show ∀ (vs : Array Value) (w : World), (callFunc 49 vs).run Tryd.prog w = .ok (.enter 49 vs) w from Tryd.call49]
  have h0 := hr 0 (by simp)
  have h1 := hr 1 (by simp)
  have hob := hO.ob 0 _ (show ofL [(0, .box (setA a0))] 0 = some (.box (setA a0)) from rfl)
  obtain ⟨b, κ, hβ, hcell⟩ := box_cell hob
  have hsz : szf (ofL [(0, .box (setA a0))]) 0 = 256 := setA_len a0
  obtain ⟨b', κ', hβ', hv⟩ := ref_inv h0 hsz.symm
  rw [hβ] at hβ'
  cases hβ'
  have hv1 := R.int_inv h1
  have e : vs = #[.pointer (some ⟨b, 0, none⟩), .int .u8 ((UInt8.ofNat a1.toNat).toNat : Int)] := by
    have ha : ((UInt8.ofNat a1.toNat).toNat : Int) = a1 := by rw [UInt8.toNat_ofNat']; omega
    rw [ha]
    apply Array.ext
    · simpa using hs
    · intro i hi hi2
      have hi3 : i < 2 := by simpa using hi2
      rcases (by omega : i = 0 ∨ i = 1) with rfl | rfl
      · have : vs.getD 0 undef = vs[0] := by simp [Array.getD, hi]
        rw [this] at hv
        simpa using hv
      · have : vs.getD 1 undef = vs[1] := by simp [Array.getD, hi]
        rw [this] at hv1
        simpa using hv1
  rw [e]
  refine (Tryd.asciiSet_contains b (UInt8.ofNat a1.toNat) _ w (hcell _)).mono fun e w' ⟨he, hw⟩ => ?_
  subst hw
  exact ⟨_, he, g, R.bool _, hO, Fr.refl _ _, Kp.refl _ _⟩
def sLast.l9 : Nat → ByteArray → ByteArray → Int → Option Int
  | 0, _, _, _ => Option.none
  | k + 1, a0, a1, x8 => (if x8 ≥ 0 then (if 0 ≤ x8 then (if x8 < (a0.size : Int) then ((sHas.f a1 (bt a0 x8)).bind fun r9 => (if r9 = true then Option.some x8 else sLast.l9 k a0 a1 (wrap64 (x8 - 1)))) else Option.none) else Option.none) else Option.some (-1))
theorem sLast.loops : ∀ k, (∀ (a0 : ByteArray) (a1 : ByteArray) (x8 : Int), RS (fam Tryd.f31 [1000007] [] [] (fun r : Int => .int .i64 r) (fun r => [])) (Func.head Tryd.f31 0) ⟨ofT [(0, .str a0), (6, .ref 6 0 0 0 256), (8, .int .i64 x8)], ofL [(6, .box (setA a1))]⟩ (sLast.l9 k a0 a1 x8))
  | 0 => by intro _ _ _; simp only [sLast.l9]; exact RS.none
  | k + 1 => by
    have ih := sLast.loops k
    intro a0 a1 x8
    simp only [sLast.l9]
    refine RS.go ?_
    refine RT.br rfl (fun c1 => ?_) (fun c1 => ?_)
    · refine RT.br rfl (fun c2 => ?_) (fun c2 => RT.none)
      refine RT.br rfl (fun c3 => ?_) (fun c3 => RT.none)
      refine RT.call rfl (fun _ h => sHas.ok a1 (bt a0 x8) _ h) (fun i => bif Nat.beq i 0 then 6 else i) (LeL.eq rfl) ⟨⟨_, rfl, LeO.refl _⟩, trivial⟩ (fun _ => rfl) (fun r9 => ?_)
      refine RS.go ?_
      refine RT.brB rfl (fun c4 => ?_) (fun c4 => ?_)
      · exact RT.done rfl rfl (Le.refl _) trivial rfl (dom0 rfl)
      · refine RT.goto rfl ?_
        refine RS.weak [(0, .str a0), (6, .ref 6 0 0 0 256), (8, .int .i64 (wrap64 (x8 - 1)))] [(6, .box (setA a1))] ⟨Le.eq (by first | rfl | simp), Le.eq (by first | rfl | simp), Le.eq (by first | rfl | simp), trivial⟩ ⟨⟨_, rfl, LeO.refl _⟩, trivial⟩ rfl (dom0 rfl) ?_
        exact ih a0 a1 (wrap64 (x8 - 1))
    · exact RT.done rfl rfl (Le.refl _) trivial rfl (dom0 rfl)
def sLast.f (k : Nat) (a0 : ByteArray) (a1 : ByteArray) : Option Int := (if a1 = (⟨#[]⟩ : ByteArray) then Option.none else (if (a0.size : Int) = 1 then Option.none else ((strings_shouldUseASCIISet.f (a0.size : Int)).bind fun r5 => (if r5 = true then ((sMake.f a1).bind fun r6 => sLast.l9 k a0 r6 (wrap64 ((a0.size : Int) - 1))) else Option.none))))
theorem sLast.ok (k : Nat) (a0 : ByteArray) (a1 : ByteArray) (r : Int) (h : sLast.f k a0 a1 = some r) : Ct Tryd.prog B 31 [.str a0, .str a1] (ofL []) (.int .i64 r) (ofL []) := by
  refine Ct.of (Y := (fam Tryd.f31 [1000007] [] [] (fun r : Int => .int .i64 r) (fun r => []))) Tryd.func31 rfl Tryd.call31 rfl rfl ?_ r h
  unfold sLast.f
  refine RS.go ?_
  refine RT.br rfl (fun c22 => ?_) (fun c22 => ?_)
  · exact RT.none
  · refine RT.br rfl (fun c21 => ?_) (fun c21 => ?_)
    · exact RT.none
    · refine RT.call0 rfl (fun _ h => strings_shouldUseASCIISet.ok (a0.size : Int) _ h) (LeL.eq rfl) (fun _ => rfl) (fun r5 => ?_)
      refine RS.go ?_
      refine RT.brB rfl (fun c20 => ?_) (fun c20 => ?_)
      · refine RT.call0 rfl (fun _ h => sMake.ok a1 _ h) (LeL.eq rfl) (fun _ => rfl) (fun r6 => ?_)
        refine RS.go ?_
        refine RT.goto rfl ?_
        refine RS.obj 6 (.box (setA r6)) ⟨_, rfl, LeO.putA rfl rfl⟩ ?_
        refine RS.go ?_
        refine RT.brT rfl ?_
        refine RT.goto rfl ?_
        refine RS.weak [(0, .str a0), (6, .ref 6 0 0 0 256), (8, .int .i64 (wrap64 ((a0.size : Int) - 1)))] [(6, .box (setA r6))] ⟨Le.eq (by first | rfl | simp), Le.eq (by first | rfl | simp), Le.eq (by first | rfl | simp), trivial⟩ ⟨⟨_, rfl, LeO.refl _⟩, trivial⟩ rfl (dom0 rfl) ?_
        exact sLast.loops k a0 r6 (wrap64 ((a0.size : Int) - 1))
      · exact RT.none
def strings_LastIndexAny.f (k : Nat) (a0 : ByteArray) (a1 : ByteArray) : Option Int := if 8 < a0.size then sLast.f k a0 a1 else strings_LastIndexAny_s.f k a0 a1
theorem strings_LastIndexAny.ok (k : Nat) (a0 : ByteArray) (a1 : ByteArray) (r : Int) (h : strings_LastIndexAny.f k a0 a1 = some r) : Ct Tryd.prog B 31 [.str a0, .str a1] (ofL []) (.int .i64 r) (ofL []) := by
  unfold strings_LastIndexAny.f at h
  split at h
  · exact sLast.ok k a0 a1 r h
  · exact strings_LastIndexAny_s.ok k a0 a1 r h

/-! ### pileref1_in: function 33 -/
def pileref1_in.f (a0 : Int) (a1 : Int) (a2 : Int) : Option (Bool) := (if a1 ≤ a0 then Option.some (decide (a0 ≤ a2)) else Option.some false)
theorem pileref1_in.ok (a0 : Int) (a1 : Int) (a2 : Int) (r : Bool) (h : pileref1_in.f a0 a1 a2 = some r) : Ct Tryd.prog B 33 [.int .i64 a0, .int .i64 a1, .int .i64 a2] (ofL []) (.bool r) (ofL []) := by
  refine Ct.of (Y := (fam Tryd.f33 [] [] [] (fun r : Bool => .bool r) (fun r => []))) Tryd.func33 rfl Tryd.call33 rfl rfl ?_ r h
  unfold pileref1_in.f
  refine RS.go ?_
  refine RT.br rfl (fun c1 => ?_) (fun c1 => ?_)
  · refine RT.brT rfl ?_
    refine RT.brT rfl ?_
    refine RT.brT rfl ?_
    exact RT.done rfl rfl (Le.refl _) trivial rfl (dom0 rfl)
  · refine RT.brF rfl ?_
    refine RT.brF rfl ?_
    refine RT.brF rfl ?_
    exact RT.done rfl rfl (Le.refl _) trivial rfl (dom0 rfl)
def strings_Trim.f (a0 : ByteArray) (a1 : ByteArray) : Option (ByteArray) := if a0.size ≤ 9223372036854775807 ∧ a1.size < 4294967281 ∧ asciiT a1 = true then some (⟨(Lib.trimS a0.data.toList a1.data.toList).toArray⟩ : ByteArray) else none
theorem strings_Trim.ok (a0 : ByteArray) (a1 : ByteArray) (r : ByteArray) (h : strings_Trim.f a0 a1 = some r) : Ct Tryd.prog B 51 [.str a0, .str a1] (ofL []) (.str r) (ofL []) := by
  unfold strings_Trim.f at h
  split at h
  case isFalse => cases h
  case isTrue c =>
  cases h
  refine Ct.lib Tryd.call51 rfl rfl fun g w hb => (Go.Proofs.Any.strings_Trim_laid Tryd.lays160 (by kernel_rfl) a0 a1 w c.1 c.2.1 (asciiT_at c.2.2)).mono fun e w' ⟨he, hw⟩ => ⟨he, hw⟩

def strings_IndexAny.f (a0 : ByteArray) (a1 : ByteArray) : Option (Int) := if (a0.size < 4294967281 ∧ a1.size < 4294967281) ∧ asciiT a0 = true ∧ asciiT a1 = true then some (Lib.indexAny a0.data.toList a1.data.toList) else none
theorem strings_IndexAny.ok (a0 : ByteArray) (a1 : ByteArray) (r : Int) (h : strings_IndexAny.f a0 a1 = some r) : Ct Tryd.prog B 52 [.str a0, .str a1] (ofL []) (.int .i64 r) (ofL []) := by
  unfold strings_IndexAny.f at h
  split at h
  case isFalse => cases h
  case isTrue c =>
  cases h
  refine Ct.lib Tryd.call52 rfl rfl fun g w hb => (Tryd.strings_IndexAny_laid a0 a1 w c.1.1 c.1.2 (asciiT_at c.2.1) (asciiT_at c.2.2)).mono fun e w' ⟨he, hw⟩ => ⟨he, hw⟩

/-! ### strings_ContainsAny: function 34 -/
def strings_ContainsAny.f (a0 : ByteArray) (a1 : ByteArray) : Option (Bool) := ((strings_IndexAny.f a0 a1).bind fun r1 => Option.some (decide (r1 ≥ 0)))
theorem strings_ContainsAny.ok (a0 : ByteArray) (a1 : ByteArray) (r : Bool) (h : strings_ContainsAny.f a0 a1 = some r) : Ct Tryd.prog B 34 [.str a0, .str a1] (ofL []) (.bool r) (ofL []) := by
  refine Ct.of (Y := (fam Tryd.f34 [] [] [] (fun r : Bool => .bool r) (fun r => []))) Tryd.func34 rfl Tryd.call34 rfl rfl ?_ r h
  unfold strings_ContainsAny.f
  refine RS.go ?_
  refine RT.call0 rfl (fun _ h => strings_IndexAny.ok a0 a1 _ h) (LeL.eq rfl) (fun _ => rfl) (fun r1 => ?_)
  refine RS.go ?_
  exact RT.done rfl rfl (Le.refl _) trivial rfl (dom0 rfl)
/-! ### pileref1_plain: function 32 -/
def pileref1_plain.f (a0 : ByteArray) (a1 : Int) (a2 : Int) : Option (Bool) := ((pileref1_in.f (a0.size : Int) a1 a2).bind fun r1 => (if r1 = true then ((strings_Trim.f a0 str_0).bind fun r2 => (if r2 = (⟨#[]⟩ : ByteArray) then ((strings_ContainsAny.f a0 str_1).bind fun r3 => Option.some r3) else Option.some false)) else Option.some false))
theorem pileref1_plain.ok (a0 : ByteArray) (a1 : Int) (a2 : Int) (r : Bool) (h : pileref1_plain.f a0 a1 a2 = some r) : Ct Tryd.prog B 32 [.str a0, .int .i64 a1, .int .i64 a2] (ofL []) (.bool r) (ofL []) := by
  refine Ct.of (Y := (fam Tryd.f32 [] [] [] (fun r : Bool => .bool r) (fun r => []))) Tryd.func32 rfl Tryd.call32 rfl rfl ?_ r h
  unfold pileref1_plain.f
  refine RS.go ?_
  refine RT.call0 rfl (fun _ h => pileref1_in.ok (a0.size : Int) a1 a2 _ h) (LeL.eq rfl) (fun _ => rfl) (fun r1 => ?_)
  refine RS.go ?_
  refine RT.brB rfl (fun c5 => ?_) (fun c5 => ?_)
  · refine RT.brT rfl ?_
    refine RT.call0 rfl (fun _ h => strings_Trim.ok a0 str_0 _ h) (LeL.eq rfl) (fun _ => rfl) (fun r2 => ?_)
    refine RS.go ?_
    refine RT.brT rfl ?_
    refine RT.brT rfl ?_
    refine RT.br rfl (fun c4 => ?_) (fun c4 => ?_)
    · refine RT.brT rfl ?_
      refine RT.call0 rfl (fun _ h => strings_ContainsAny.ok a0 str_1 _ h) (LeL.eq rfl) (fun _ => rfl) (fun r3 => ?_)
      refine RS.go ?_
      refine RT.brT rfl ?_
      exact RT.done rfl rfl (Le.refl _) trivial rfl (dom0 rfl)
    · refine RT.brF rfl ?_
      refine RT.brF rfl ?_
      exact RT.done rfl rfl (Le.refl _) trivial rfl (dom0 rfl)
  · refine RT.brF rfl ?_
    refine RT.brF rfl ?_
    refine RT.brF rfl ?_
    refine RT.brF rfl ?_
    refine RT.brF rfl ?_
    refine RT.brF rfl ?_
    exact RT.done rfl rfl (Le.refl _) trivial rfl (dom0 rfl)
/-! ### pileref1_baseAt: function 21 -/
def pileref1_baseAt.f (k : Nat) (a0 : ByteArray) : Option (Int) := ((strings_LastIndexAny.f k a0 (⟨#[48, 49, 50, 51, 52, 53, 54, 55, 56, 57]⟩ : ByteArray)).bind fun r1 => ((pileref1_plain.f a0 3 10).bind fun r2 => (if r2 = true then ((pileref1_in.f r1 1 3).bind fun r3 => (if r3 = true then ((pileref1_in.f (wrap64 ((wrap64 ((a0.size : Int) - 1)) - r1)) 1 4).bind fun r4 => (if r4 = true then (if 0 ≤ r1 then (if r1 ≤ (a0.size : Int) then ((strings_ContainsAny.f (a0.extract 0 (r1).toNat) str_1).bind fun r7 => (if r7 = true then Option.some r1 else Option.some (-1))) else Option.none) else Option.none) else Option.some (-1))) else Option.some (-1))) else Option.some (-1))))
theorem pileref1_baseAt.ok (k : Nat) (a0 : ByteArray) (r : Int) (h : pileref1_baseAt.f k a0 = some r) : Ct Tryd.prog B 21 [.str a0] (ofL []) (.int .i64 r) (ofL []) := by
  refine Ct.of (Y := (fam Tryd.f21 [] [] [] (fun r : Int => .int .i64 r) (fun r => []))) Tryd.func21 rfl Tryd.call21 rfl rfl ?_ r h
  unfold pileref1_baseAt.f
  refine RS.go ?_
  refine RT.call0 rfl (fun _ h => strings_LastIndexAny.ok k a0 (⟨#[48, 49, 50, 51, 52, 53, 54, 55, 56, 57]⟩ : ByteArray) _ h) (LeL.eq rfl) (fun _ => rfl) (fun r1 => ?_)
  refine RS.go ?_
  refine RT.call0 rfl (fun _ h => pileref1_plain.ok a0 3 10 _ h) (LeL.eq rfl) (fun _ => rfl) (fun r2 => ?_)
  refine RS.go ?_
  refine RT.brBN rfl (fun c11 => ?_) (fun c11 => ?_)
  · refine RT.brF rfl ?_
    refine RT.call0 rfl (fun _ h => pileref1_in.ok r1 1 3 _ h) (LeL.eq rfl) (fun _ => rfl) (fun r3 => ?_)
    refine RS.go ?_
    refine RT.brF rfl ?_
    refine RT.brF rfl ?_
    refine RT.brBN rfl (fun c10 => ?_) (fun c10 => ?_)
    · refine RT.brF rfl ?_
      refine RT.brF rfl ?_
      refine RT.brF rfl ?_
      refine RT.brF rfl ?_
      refine RT.brF rfl ?_
      refine RT.call0 rfl (fun _ h => pileref1_in.ok (wrap64 ((wrap64 ((a0.size : Int) - 1)) - r1)) 1 4 _ h) (LeL.eq rfl) (fun _ => rfl) (fun r4 => ?_)
      refine RS.go ?_
      refine RT.brF rfl ?_
      refine RT.brF rfl ?_
      refine RT.brBN rfl (fun c9 => ?_) (fun c9 => ?_)
      · refine RT.brF rfl ?_
        refine RT.brF rfl ?_
        refine RT.br rfl (fun c5 => ?_) (fun c5 => RT.none)
        refine RT.br rfl (fun c6 => ?_) (fun c6 => RT.none)
        refine RT.brF rfl ?_
        refine RT.call0 rfl (fun _ h => strings_ContainsAny.ok (a0.extract 0 (r1).toNat) str_1 _ h) (LeL.eq rfl) (fun _ => rfl) (fun r7 => ?_)
        refine RS.go ?_
        refine RT.brF rfl ?_
        refine RT.brF rfl ?_
        refine RT.brBN rfl (fun c8 => ?_) (fun c8 => ?_)
        · exact RT.done rfl rfl (Le.refl _) trivial rfl (dom0 rfl)
        · exact RT.done rfl rfl (Le.refl _) trivial rfl (dom0 rfl)
      · refine RT.brT rfl ?_
        refine RT.brT rfl ?_
        refine RT.brT rfl ?_
        refine RT.brT rfl ?_
        refine RT.brT rfl ?_
        refine RT.brT rfl ?_
        exact RT.done rfl rfl (Le.refl _) trivial rfl (dom0 rfl)
    · refine RT.brT rfl ?_
      refine RT.brT rfl ?_
      refine RT.brT rfl ?_
      refine RT.brT rfl ?_
      refine RT.brT rfl ?_
      refine RT.brT rfl ?_
      refine RT.brT rfl ?_
      refine RT.brT rfl ?_
      refine RT.brT rfl ?_
      refine RT.brT rfl ?_
      refine RT.brT rfl ?_
      refine RT.brT rfl ?_
      refine RT.brT rfl ?_
      refine RT.brT rfl ?_
      exact RT.done rfl rfl (Le.refl _) trivial rfl (dom0 rfl)
  · refine RT.brT rfl ?_
    refine RT.brT rfl ?_
    refine RT.brT rfl ?_
    refine RT.brT rfl ?_
    refine RT.brT rfl ?_
    refine RT.brT rfl ?_
    refine RT.brT rfl ?_
    refine RT.brT rfl ?_
    refine RT.brT rfl ?_
    refine RT.brT rfl ?_
    refine RT.brT rfl ?_
    refine RT.brT rfl ?_
    refine RT.brT rfl ?_
    refine RT.brT rfl ?_
    refine RT.brT rfl ?_
    refine RT.brT rfl ?_
    refine RT.brT rfl ?_
    refine RT.brT rfl ?_
    exact RT.done rfl rfl (Le.refl _) trivial rfl (dom0 rfl)
/-! ### pileref1_PartsOf_1: function 20 -/
def pileref1_PartsOf_1.k0 : List DK := [⟨[2, 15], [2], [], [2]⟩, ⟨[6, 10, 14], [], [15], []⟩, ⟨[11, 13], [], [14], []⟩, ⟨[12], [], [13], []⟩, ⟨[3], [], [12], []⟩, ⟨[0], [], [11], []⟩, ⟨[7, 9], [], [10], []⟩, ⟨[8], [], [9], []⟩, ⟨[3], [], [8], []⟩, ⟨[0], [], [7], []⟩, ⟨[0], [], [6], []⟩]
def pileref1_PartsOf_1.k1 : List Nat := [0, 0, 0, 4, 14, 0, 0, 64, 224, 511, 1023]
def pileref1_PartsOf_1.f (k : Nat) (a0 : ByteArray) : Option (ByteArray × ByteArray × ByteArray × Int × ByteArray) := ((pileref1_baseAt.f k a0).bind fun r1 => (if 0 ≤ wrap64 (r1 + 1) then (if wrap64 (r1 + 1) ≤ (a0.size : Int) then (if 0 ≤ wrap64 (r1 + 1) then (if wrap64 (r1 + 1) ≤ (a0.size : Int) then Option.some (a0, a0.extract 0 (wrap64 (r1 + 1)).toNat, a0.extract (wrap64 (r1 + 1)).toNat ((a0.size : Int)).toNat, 0, (⟨#[]⟩ : ByteArray)) else Option.none) else Option.none) else Option.none) else Option.none))
theorem pileref1_PartsOf_1.ok (k : Nat) (a0 : ByteArray) (r : ByteArray × ByteArray × ByteArray × Int × ByteArray) (h : pileref1_PartsOf_1.f k a0 = some r) : Ct Tryd.prog B 20 [.str a0] (ofL []) (.agg [.str r.1, .str r.2.1, .str r.2.2.1, .int .i64 r.2.2.2.1, .str r.2.2.2.2]) (ofL []) := by
  refine Ct.of (Y := (fam Tryd.f20 [] [] [] (fun r : ByteArray × ByteArray × ByteArray × Int × ByteArray => .agg [.str r.1, .str r.2.1, .str r.2.2.1, .int .i64 r.2.2.2.1, .str r.2.2.2.2]) (fun r => []))) Tryd.func20 rfl Tryd.call20 rfl rfl ?_ r h
  unfold pileref1_PartsOf_1.f
  refine RS.go ?_
  refine RT.call0 rfl (fun _ h => pileref1_baseAt.ok k a0 _ h) (LeL.eq rfl) (fun _ => rfl) (fun r1 => ?_)
  refine RS.go ?_
  refine RT.goto rfl ?_
  refine RS.draw rfl ?_
  refine RD.br rfl (fun c2 => ?_) (fun c2 => RD.none)
  refine RD.br rfl (fun c3 => ?_) (fun c3 => RD.none)
  refine RD.br rfl (fun c4 => ?_) (fun c4 => RD.none)
  refine RD.br rfl (fun c5 => ?_) (fun c5 => RD.none)
  refine RD.fin pileref1_PartsOf_1.k0 pileref1_PartsOf_1.k1 rfl rfl (by decide +kernel) ?_
  refine RS.go ?_
  exact RT.done rfl rfl (Le.refl _) trivial rfl (dom0 rfl)
/-! ### pileref1_begin: function 22 -/
def pileref1_begin.f (a0 : ByteArray) : Option (Bool) := ((pileref1_plain.f a0 1 4).bind fun r1 => Option.some r1)
theorem pileref1_begin.ok (a0 : ByteArray) (r : Bool) (h : pileref1_begin.f a0 = some r) : Ct Tryd.prog B 22 [.str a0] (ofL []) (.bool r) (ofL []) := by
  refine Ct.of (Y := (fam Tryd.f22 [] [] [] (fun r : Bool => .bool r) (fun r => []))) Tryd.func22 rfl Tryd.call22 rfl rfl ?_ r h
  unfold pileref1_begin.f
  refine RS.go ?_
  refine RT.call0 rfl (fun _ h => pileref1_plain.ok a0 1 4 _ h) (LeL.eq rfl) (fun _ => rfl) (fun r1 => ?_)
  refine RS.go ?_
  exact RT.done rfl rfl (Le.refl _) trivial rfl (dom0 rfl)
def strings_Contains.f (a0 : ByteArray) (a1 : ByteArray) : Option (Bool) := if a0.size < 4294967281 then some (Lib.contains a0.data.toList a1.data.toList) else none
theorem strings_Contains.ok (a0 : ByteArray) (a1 : ByteArray) (r : Bool) (h : strings_Contains.f a0 a1 = some r) : Ct Tryd.prog B 13 [.str a0, .str a1] (ofL []) (.bool r) (ofL []) := by
  unfold strings_Contains.f at h
  split at h
  case isFalse => cases h
  case isTrue c =>
  cases h
  refine Ct.lib Tryd.call13 rfl rfl fun g w hb => (((hbML hb).elim fun m hm => Tryd.strings_Contains a0 a1 m w c hm)).mono fun e w' ⟨he, hw⟩ => ⟨he, hw ▸ Below.refl _ _⟩

/-! ### pileref1_PartsOf: function 6 -/
def pileref1_PartsOf.j29 : Nat → ByteArray → ByteArray → ByteArray → Int → ByteArray → Option (ByteArray × ByteArray × ByteArray × Int × ByteArray × Bool)
  | 0, _, _, _, _, _ => Option.none
  | k + 1, o9_0j29, o9_1j29, o9_2j29, o9_3j29, o9_4j29 => Option.some (o9_0j29, o9_1j29, o9_2j29, o9_3j29, o9_4j29, true)
def pileref1_PartsOf.f (k : Nat) (a0 : ByteArray) : Option (ByteArray × ByteArray × ByteArray × Int × ByteArray × Bool) := ((strings_Cut.f a0 (⟨#[47]⟩ : ByteArray)).bind fun r1 => (if (a0.size : Int) > 14 then Option.some ((⟨#[]⟩ : ByteArray), (⟨#[]⟩ : ByteArray), (⟨#[]⟩ : ByteArray), 0, (⟨#[]⟩ : ByteArray), false) else (if r1.2.2 = true then ((pileref1_baseAt.f k r1.2.1).bind fun r5 => (if r5 ≥ 0 then ((pileref1_begin.f r1.1).bind fun r6 => (if r6 = true then ((pileref1_PartsOf_1.f k r1.2.1).bind fun r7 => Option.some (r7.1, r7.2.1, r7.2.2.1, 1, r1.1, true)) else ((pileref1_baseAt.f k r1.1).bind fun r8 => (if r8 < 0 then Option.some ((⟨#[]⟩ : ByteArray), (⟨#[]⟩ : ByteArray), (⟨#[]⟩ : ByteArray), 0, (⟨#[]⟩ : ByteArray), false) else ((pileref1_PartsOf_1.f k r1.1).bind fun r9 => (if r1.2.1 = (⟨#[112]⟩ : ByteArray) then pileref1_PartsOf.j29 k r9.1 r9.2.1 r9.2.2.1 3 r9.2.2.2.2 else (if r1.2.1 = (⟨#[109]⟩ : ByteArray) then pileref1_PartsOf.j29 k r9.1 r9.2.1 r9.2.2.1 4 r9.2.2.2.2 else (if r1.2.1 = (⟨#[109, 109]⟩ : ByteArray) then pileref1_PartsOf.j29 k r9.1 r9.2.1 r9.2.2.1 5 r9.2.2.2.2 else (if r1.2.1 = (⟨#[97, 109]⟩ : ByteArray) then pileref1_PartsOf.j29 k r9.1 r9.2.1 r9.2.2.1 6 r9.2.2.2.2 else (if (r1.2.1.size : Int) = 1 then ((strings_Contains.f (⟨#[48, 49, 50, 51, 52, 53, 54, 55, 56, 57]⟩ : ByteArray) r1.2.1).bind fun r10 => (if r10 = true then pileref1_PartsOf.j29 k r9.1 r9.2.1 r9.2.2.1 2 r1.2.1 else ((pileref1_begin.f r1.2.1).bind fun r11 => (if r11 = true then pileref1_PartsOf.j29 k r9.1 r9.2.1 r9.2.2.1 1 r1.2.1 else Option.some ((⟨#[]⟩ : ByteArray), (⟨#[]⟩ : ByteArray), (⟨#[]⟩ : ByteArray), 0, (⟨#[]⟩ : ByteArray), false))))) else ((pileref1_begin.f r1.2.1).bind fun r14 => (if r14 = true then pileref1_PartsOf.j29 k r9.1 r9.2.1 r9.2.2.1 1 r1.2.1 else Option.some ((⟨#[]⟩ : ByteArray), (⟨#[]⟩ : ByteArray), (⟨#[]⟩ : ByteArray), 0, (⟨#[]⟩ : ByteArray), false))))))))))))) else ((pileref1_baseAt.f k r1.1).bind fun r23 => (if r23 < 0 then Option.some ((⟨#[]⟩ : ByteArray), (⟨#[]⟩ : ByteArray), (⟨#[]⟩ : ByteArray), 0, (⟨#[]⟩ : ByteArray), false) else ((pileref1_PartsOf_1.f k r1.1).bind fun r24 => (if r1.2.1 = (⟨#[112]⟩ : ByteArray) then pileref1_PartsOf.j29 k r24.1 r24.2.1 r24.2.2.1 3 r24.2.2.2.2 else (if r1.2.1 = (⟨#[109]⟩ : ByteArray) then pileref1_PartsOf.j29 k r24.1 r24.2.1 r24.2.2.1 4 r24.2.2.2.2 else (if r1.2.1 = (⟨#[109, 109]⟩ : ByteArray) then pileref1_PartsOf.j29 k r24.1 r24.2.1 r24.2.2.1 5 r24.2.2.2.2 else (if r1.2.1 = (⟨#[97, 109]⟩ : ByteArray) then pileref1_PartsOf.j29 k r24.1 r24.2.1 r24.2.2.1 6 r24.2.2.2.2 else (if (r1.2.1.size : Int) = 1 then ((strings_Contains.f (⟨#[48, 49, 50, 51, 52, 53, 54, 55, 56, 57]⟩ : ByteArray) r1.2.1).bind fun r25 => (if r25 = true then pileref1_PartsOf.j29 k r24.1 r24.2.1 r24.2.2.1 2 r1.2.1 else ((pileref1_begin.f r1.2.1).bind fun r26 => (if r26 = true then pileref1_PartsOf.j29 k r24.1 r24.2.1 r24.2.2.1 1 r1.2.1 else Option.some ((⟨#[]⟩ : ByteArray), (⟨#[]⟩ : ByteArray), (⟨#[]⟩ : ByteArray), 0, (⟨#[]⟩ : ByteArray), false))))) else ((pileref1_begin.f r1.2.1).bind fun r29 => (if r29 = true then pileref1_PartsOf.j29 k r24.1 r24.2.1 r24.2.2.1 1 r1.2.1 else Option.some ((⟨#[]⟩ : ByteArray), (⟨#[]⟩ : ByteArray), (⟨#[]⟩ : ByteArray), 0, (⟨#[]⟩ : ByteArray), false))))))))))))) else ((pileref1_baseAt.f k r1.1).bind fun r2 => (if r2 < 0 then Option.some ((⟨#[]⟩ : ByteArray), (⟨#[]⟩ : ByteArray), (⟨#[]⟩ : ByteArray), 0, (⟨#[]⟩ : ByteArray), false) else ((pileref1_PartsOf_1.f k r1.1).bind fun r3 => Option.some (r3.1, r3.2.1, r3.2.2.1, r3.2.2.2.1, r3.2.2.2.2, true)))))))
theorem pileref1_PartsOf.loops : ∀ k, (∀ (o9_0j29 : ByteArray) (o9_1j29 : ByteArray) (o9_2j29 : ByteArray) (o9_3j29 : Int) (o9_4j29 : ByteArray), RS (fam Tryd.f6 [29] [] [] (fun r : ByteArray × ByteArray × ByteArray × Int × ByteArray × Bool => .tup [.agg [.str r.1, .str r.2.1, .str r.2.2.1, .int .i64 r.2.2.2.1, .str r.2.2.2.2.1], .bool r.2.2.2.2.2]) (fun r => [])) (Func.reg Tryd.f6 29) ⟨ofT [(2, .ref 2 0 0 0 5), (9, .ref 9 0 0 0 5)], ofL [(2, .box [.str (⟨#[]⟩ : ByteArray), .str (⟨#[]⟩ : ByteArray), .str (⟨#[]⟩ : ByteArray), .int .i64 0, .str (⟨#[]⟩ : ByteArray)]), (9, .box [.str o9_0j29, .str o9_1j29, .str o9_2j29, .int .i64 o9_3j29, .str o9_4j29])]⟩ (pileref1_PartsOf.j29 k o9_0j29 o9_1j29 o9_2j29 o9_3j29 o9_4j29))
  | 0 => by intro _ _ _ _ _; simp only [pileref1_PartsOf.j29]; exact RS.none
  | k + 1 => by
    have ih := pileref1_PartsOf.loops k
    · intro o9_0j29 o9_1j29 o9_2j29 o9_3j29 o9_4j29
      simp only [pileref1_PartsOf.j29]
      refine RS.region ?_
      refine RS.go ?_
      exact RT.done rfl rfl (Le.tup (LeL.cons (Le.refl _) (LeL.cons (Le.refl _) (LeL.nil)))) trivial rfl (dom0 rfl)
theorem pileref1_PartsOf.ok (k : Nat) (a0 : ByteArray) (r : ByteArray × ByteArray × ByteArray × Int × ByteArray × Bool) (h : pileref1_PartsOf.f k a0 = some r) : Ct Tryd.prog B 6 [.str a0] (ofL []) (.tup [.agg [.str r.1, .str r.2.1, .str r.2.2.1, .int .i64 r.2.2.2.1, .str r.2.2.2.2.1], .bool r.2.2.2.2.2]) (ofL []) := by
  refine Ct.of (Y := (fam Tryd.f6 [29] [] [] (fun r : ByteArray × ByteArray × ByteArray × Int × ByteArray × Bool => .tup [.agg [.str r.1, .str r.2.1, .str r.2.2.1, .int .i64 r.2.2.2.1, .str r.2.2.2.2.1], .bool r.2.2.2.2.2]) (fun r => []))) Tryd.func6 rfl Tryd.call6 rfl rfl ?_ r h
  unfold pileref1_PartsOf.f
  refine RS.go ?_
  refine RT.call0 rfl (fun _ h => strings_Cut.ok a0 (⟨#[47]⟩ : ByteArray) _ h) (LeL.eq rfl) (fun _ => rfl) (fun r1 => ?_)
  refine RS.go ?_
  refine RT.br rfl (fun c39 => ?_) (fun c39 => ?_)
  · exact RT.done rfl rfl (Le.tup (LeL.cons (Le.refl _) (LeL.cons (Le.refl _) (LeL.nil)))) trivial rfl (dom0 rfl)
  · refine RT.brBN rfl (fun c38 => ?_) (fun c38 => ?_)
    · refine RT.call0 rfl (fun _ h => pileref1_baseAt.ok k r1.2.1 _ h) (LeL.eq rfl) (fun _ => rfl) (fun r5 => ?_)
      refine RS.go ?_
      refine RT.br rfl (fun c37 => ?_) (fun c37 => ?_)
      · refine RT.brT rfl ?_
        refine RT.call0 rfl (fun _ h => pileref1_begin.ok r1.1 _ h) (LeL.eq rfl) (fun _ => rfl) (fun r6 => ?_)
        refine RS.go ?_
        refine RT.brT rfl ?_
        refine RT.brB rfl (fun c22 => ?_) (fun c22 => ?_)
        · refine RT.call0 rfl (fun _ h => pileref1_PartsOf_1.ok k r1.2.1 _ h) (LeL.eq rfl) (fun _ => rfl) (fun r7 => ?_)
          refine RS.go ?_
          exact RT.done rfl rfl (Le.tup (LeL.cons (Le.refl _) (LeL.cons (Le.refl _) (LeL.nil)))) trivial rfl (dom0 rfl)
        · refine RT.call0 rfl (fun _ h => pileref1_baseAt.ok k r1.1 _ h) (LeL.eq rfl) (fun _ => rfl) (fun r8 => ?_)
          refine RS.go ?_
          refine RT.br rfl (fun c21 => ?_) (fun c21 => ?_)
          · exact RT.done rfl rfl (Le.tup (LeL.cons (Le.refl _) (LeL.cons (Le.refl _) (LeL.nil)))) trivial rfl (dom0 rfl)
          · refine RT.call0 rfl (fun _ h => pileref1_PartsOf_1.ok k r1.1 _ h) (LeL.eq rfl) (fun _ => rfl) (fun r9 => ?_)
            refine RS.go ?_
            refine RT.br rfl (fun c20 => ?_) (fun c20 => ?_)
            · refine RT.goto rfl ?_
              refine RS.weak [(2, .ref 2 0 0 0 5), (9, .ref 9 0 0 0 5)] [(2, .box [.str (⟨#[]⟩ : ByteArray), .str (⟨#[]⟩ : ByteArray), .str (⟨#[]⟩ : ByteArray), .int .i64 0, .str (⟨#[]⟩ : ByteArray)]), (9, .box [.str r9.1, .str r9.2.1, .str r9.2.2.1, .int .i64 3, .str r9.2.2.2.2])] ⟨Le.eq (by first | rfl | simp), Le.eq (by first | rfl | simp), trivial⟩ ⟨⟨_, rfl, LeO.refl _⟩, ⟨_, rfl, LeO.refl _⟩, trivial⟩ rfl (dom0 rfl) ?_
              exact pileref1_PartsOf.loops k r9.1 r9.2.1 r9.2.2.1 3 r9.2.2.2.2 
            · refine RT.br rfl (fun c19 => ?_) (fun c19 => ?_)
              · refine RT.goto rfl ?_
                refine RS.weak [(2, .ref 2 0 0 0 5), (9, .ref 9 0 0 0 5)] [(2, .box [.str (⟨#[]⟩ : ByteArray), .str (⟨#[]⟩ : ByteArray), .str (⟨#[]⟩ : ByteArray), .int .i64 0, .str (⟨#[]⟩ : ByteArray)]), (9, .box [.str r9.1, .str r9.2.1, .str r9.2.2.1, .int .i64 4, .str r9.2.2.2.2])] ⟨Le.eq (by first | rfl | simp), Le.eq (by first | rfl | simp), trivial⟩ ⟨⟨_, rfl, LeO.refl _⟩, ⟨_, rfl, LeO.refl _⟩, trivial⟩ rfl (dom0 rfl) ?_
                exact pileref1_PartsOf.loops k r9.1 r9.2.1 r9.2.2.1 4 r9.2.2.2.2 
              · refine RT.br rfl (fun c18 => ?_) (fun c18 => ?_)
                · refine RT.goto rfl ?_
                  refine RS.weak [(2, .ref 2 0 0 0 5), (9, .ref 9 0 0 0 5)] [(2, .box [.str (⟨#[]⟩ : ByteArray), .str (⟨#[]⟩ : ByteArray), .str (⟨#[]⟩ : ByteArray), .int .i64 0, .str (⟨#[]⟩ : ByteArray)]), (9, .box [.str r9.1, .str r9.2.1, .str r9.2.2.1, .int .i64 5, .str r9.2.2.2.2])] ⟨Le.eq (by first | rfl | simp), Le.eq (by first | rfl | simp), trivial⟩ ⟨⟨_, rfl, LeO.refl _⟩, ⟨_, rfl, LeO.refl _⟩, trivial⟩ rfl (dom0 rfl) ?_
                  exact pileref1_PartsOf.loops k r9.1 r9.2.1 r9.2.2.1 5 r9.2.2.2.2 
                · refine RT.br rfl (fun c17 => ?_) (fun c17 => ?_)
                  · refine RT.goto rfl ?_
                    refine RS.weak [(2, .ref 2 0 0 0 5), (9, .ref 9 0 0 0 5)] [(2, .box [.str (⟨#[]⟩ : ByteArray), .str (⟨#[]⟩ : ByteArray), .str (⟨#[]⟩ : ByteArray), .int .i64 0, .str (⟨#[]⟩ : ByteArray)]), (9, .box [.str r9.1, .str r9.2.1, .str r9.2.2.1, .int .i64 6, .str r9.2.2.2.2])] ⟨Le.eq (by first | rfl | simp), Le.eq (by first | rfl | simp), trivial⟩ ⟨⟨_, rfl, LeO.refl _⟩, ⟨_, rfl, LeO.refl _⟩, trivial⟩ rfl (dom0 rfl) ?_
                    exact pileref1_PartsOf.loops k r9.1 r9.2.1 r9.2.2.1 6 r9.2.2.2.2 
                  · refine RT.br rfl (fun c16 => ?_) (fun c16 => ?_)
                    · refine RT.brT rfl ?_
                      refine RT.call0 rfl (fun _ h => strings_Contains.ok (⟨#[48, 49, 50, 51, 52, 53, 54, 55, 56, 57]⟩ : ByteArray) r1.2.1 _ h) (LeL.eq rfl) (fun _ => rfl) (fun r10 => ?_)
                      refine RS.go ?_
                      refine RT.brT rfl ?_
                      refine RT.brB rfl (fun c13 => ?_) (fun c13 => ?_)
                      · refine RT.goto rfl ?_
                        refine RS.weak [(2, .ref 2 0 0 0 5), (9, .ref 9 0 0 0 5)] [(2, .box [.str (⟨#[]⟩ : ByteArray), .str (⟨#[]⟩ : ByteArray), .str (⟨#[]⟩ : ByteArray), .int .i64 0, .str (⟨#[]⟩ : ByteArray)]), (9, .box [.str r9.1, .str r9.2.1, .str r9.2.2.1, .int .i64 2, .str r1.2.1])] ⟨Le.eq (by first | rfl | simp), Le.eq (by first | rfl | simp), trivial⟩ ⟨⟨_, rfl, LeO.refl _⟩, ⟨_, rfl, LeO.refl _⟩, trivial⟩ rfl (dom0 rfl) ?_
                        exact pileref1_PartsOf.loops k r9.1 r9.2.1 r9.2.2.1 2 r1.2.1 
                      · refine RT.call0 rfl (fun _ h => pileref1_begin.ok r1.2.1 _ h) (LeL.eq rfl) (fun _ => rfl) (fun r11 => ?_)
                        refine RS.go ?_
                        refine RT.brB rfl (fun c12 => ?_) (fun c12 => ?_)
                        · refine RT.goto rfl ?_
                          refine RS.weak [(2, .ref 2 0 0 0 5), (9, .ref 9 0 0 0 5)] [(2, .box [.str (⟨#[]⟩ : ByteArray), .str (⟨#[]⟩ : ByteArray), .str (⟨#[]⟩ : ByteArray), .int .i64 0, .str (⟨#[]⟩ : ByteArray)]), (9, .box [.str r9.1, .str r9.2.1, .str r9.2.2.1, .int .i64 1, .str r1.2.1])] ⟨Le.eq (by first | rfl | simp), Le.eq (by first | rfl | simp), trivial⟩ ⟨⟨_, rfl, LeO.refl _⟩, ⟨_, rfl, LeO.refl _⟩, trivial⟩ rfl (dom0 rfl) ?_
                          exact pileref1_PartsOf.loops k r9.1 r9.2.1 r9.2.2.1 1 r1.2.1 
                        · exact RT.done rfl rfl (Le.tup (LeL.cons (Le.refl _) (LeL.cons (Le.refl _) (LeL.nil)))) trivial rfl (dom0 rfl)
                    · refine RT.brF rfl ?_
                      refine RT.brF rfl ?_
                      refine RT.brF rfl ?_
                      refine RT.call0 rfl (fun _ h => pileref1_begin.ok r1.2.1 _ h) (LeL.eq rfl) (fun _ => rfl) (fun r14 => ?_)
                      refine RS.go ?_
                      refine RT.brB rfl (fun c15 => ?_) (fun c15 => ?_)
                      · refine RT.goto rfl ?_
                        refine RS.weak [(2, .ref 2 0 0 0 5), (9, .ref 9 0 0 0 5)] [(2, .box [.str (⟨#[]⟩ : ByteArray), .str (⟨#[]⟩ : ByteArray), .str (⟨#[]⟩ : ByteArray), .int .i64 0, .str (⟨#[]⟩ : ByteArray)]), (9, .box [.str r9.1, .str r9.2.1, .str r9.2.2.1, .int .i64 1, .str r1.2.1])] ⟨Le.eq (by first | rfl | simp), Le.eq (by first | rfl | simp), trivial⟩ ⟨⟨_, rfl, LeO.refl _⟩, ⟨_, rfl, LeO.refl _⟩, trivial⟩ rfl (dom0 rfl) ?_
                        exact pileref1_PartsOf.loops k r9.1 r9.2.1 r9.2.2.1 1 r1.2.1 
                      · exact RT.done rfl rfl (Le.tup (LeL.cons (Le.refl _) (LeL.cons (Le.refl _) (LeL.nil)))) trivial rfl (dom0 rfl)
      · refine RT.brF rfl ?_
        refine RT.brF rfl ?_
        refine RT.brF rfl ?_
        refine RT.call0 rfl (fun _ h => pileref1_baseAt.ok k r1.1 _ h) (LeL.eq rfl) (fun _ => rfl) (fun r23 => ?_)
        refine RS.go ?_
        refine RT.br rfl (fun c36 => ?_) (fun c36 => ?_)
        · exact RT.done rfl rfl (Le.tup (LeL.cons (Le.refl _) (LeL.cons (Le.refl _) (LeL.nil)))) trivial rfl (dom0 rfl)
        · refine RT.call0 rfl (fun _ h => pileref1_PartsOf_1.ok k r1.1 _ h) (LeL.eq rfl) (fun _ => rfl) (fun r24 => ?_)
          refine RS.go ?_
          refine RT.br rfl (fun c35 => ?_) (fun c35 => ?_)
          · refine RT.goto rfl ?_
            refine RS.weak [(2, .ref 2 0 0 0 5), (9, .ref 9 0 0 0 5)] [(2, .box [.str (⟨#[]⟩ : ByteArray), .str (⟨#[]⟩ : ByteArray), .str (⟨#[]⟩ : ByteArray), .int .i64 0, .str (⟨#[]⟩ : ByteArray)]), (9, .box [.str r24.1, .str r24.2.1, .str r24.2.2.1, .int .i64 3, .str r24.2.2.2.2])] ⟨Le.eq (by first | rfl | simp), Le.eq (by first | rfl | simp), trivial⟩ ⟨⟨_, rfl, LeO.refl _⟩, ⟨_, rfl, LeO.refl _⟩, trivial⟩ rfl (dom0 rfl) ?_
            exact pileref1_PartsOf.loops k r24.1 r24.2.1 r24.2.2.1 3 r24.2.2.2.2 
          · refine RT.br rfl (fun c34 => ?_) (fun c34 => ?_)
            · refine RT.goto rfl ?_
              refine RS.weak [(2, .ref 2 0 0 0 5), (9, .ref 9 0 0 0 5)] [(2, .box [.str (⟨#[]⟩ : ByteArray), .str (⟨#[]⟩ : ByteArray), .str (⟨#[]⟩ : ByteArray), .int .i64 0, .str (⟨#[]⟩ : ByteArray)]), (9, .box [.str r24.1, .str r24.2.1, .str r24.2.2.1, .int .i64 4, .str r24.2.2.2.2])] ⟨Le.eq (by first | rfl | simp), Le.eq (by first | rfl | simp), trivial⟩ ⟨⟨_, rfl, LeO.refl _⟩, ⟨_, rfl, LeO.refl _⟩, trivial⟩ rfl (dom0 rfl) ?_
              exact pileref1_PartsOf.loops k r24.1 r24.2.1 r24.2.2.1 4 r24.2.2.2.2 
            · refine RT.br rfl (fun c33 => ?_) (fun c33 => ?_)
              · refine RT.goto rfl ?_
                refine RS.weak [(2, .ref 2 0 0 0 5), (9, .ref 9 0 0 0 5)] [(2, .box [.str (⟨#[]⟩ : ByteArray), .str (⟨#[]⟩ : ByteArray), .str (⟨#[]⟩ : ByteArray), .int .i64 0, .str (⟨#[]⟩ : ByteArray)]), (9, .box [.str r24.1, .str r24.2.1, .str r24.2.2.1, .int .i64 5, .str r24.2.2.2.2])] ⟨Le.eq (by first | rfl | simp), Le.eq (by first | rfl | simp), trivial⟩ ⟨⟨_, rfl, LeO.refl _⟩, ⟨_, rfl, LeO.refl _⟩, trivial⟩ rfl (dom0 rfl) ?_
                exact pileref1_PartsOf.loops k r24.1 r24.2.1 r24.2.2.1 5 r24.2.2.2.2 
              · refine RT.br rfl (fun c32 => ?_) (fun c32 => ?_)
                · refine RT.goto rfl ?_
                  refine RS.weak [(2, .ref 2 0 0 0 5), (9, .ref 9 0 0 0 5)] [(2, .box [.str (⟨#[]⟩ : ByteArray), .str (⟨#[]⟩ : ByteArray), .str (⟨#[]⟩ : ByteArray), .int .i64 0, .str (⟨#[]⟩ : ByteArray)]), (9, .box [.str r24.1, .str r24.2.1, .str r24.2.2.1, .int .i64 6, .str r24.2.2.2.2])] ⟨Le.eq (by first | rfl | simp), Le.eq (by first | rfl | simp), trivial⟩ ⟨⟨_, rfl, LeO.refl _⟩, ⟨_, rfl, LeO.refl _⟩, trivial⟩ rfl (dom0 rfl) ?_
                  exact pileref1_PartsOf.loops k r24.1 r24.2.1 r24.2.2.1 6 r24.2.2.2.2 
                · refine RT.br rfl (fun c31 => ?_) (fun c31 => ?_)
                  · refine RT.brT rfl ?_
                    refine RT.call0 rfl (fun _ h => strings_Contains.ok (⟨#[48, 49, 50, 51, 52, 53, 54, 55, 56, 57]⟩ : ByteArray) r1.2.1 _ h) (LeL.eq rfl) (fun _ => rfl) (fun r25 => ?_)
                    refine RS.go ?_
                    refine RT.brT rfl ?_
                    refine RT.brB rfl (fun c28 => ?_) (fun c28 => ?_)
                    · refine RT.goto rfl ?_
                      refine RS.weak [(2, .ref 2 0 0 0 5), (9, .ref 9 0 0 0 5)] [(2, .box [.str (⟨#[]⟩ : ByteArray), .str (⟨#[]⟩ : ByteArray), .str (⟨#[]⟩ : ByteArray), .int .i64 0, .str (⟨#[]⟩ : ByteArray)]), (9, .box [.str r24.1, .str r24.2.1, .str r24.2.2.1, .int .i64 2, .str r1.2.1])] ⟨Le.eq (by first | rfl | simp), Le.eq (by first | rfl | simp), trivial⟩ ⟨⟨_, rfl, LeO.refl _⟩, ⟨_, rfl, LeO.refl _⟩, trivial⟩ rfl (dom0 rfl) ?_
                      exact pileref1_PartsOf.loops k r24.1 r24.2.1 r24.2.2.1 2 r1.2.1 
                    · refine RT.call0 rfl (fun _ h => pileref1_begin.ok r1.2.1 _ h) (LeL.eq rfl) (fun _ => rfl) (fun r26 => ?_)
                      refine RS.go ?_
                      refine RT.brB rfl (fun c27 => ?_) (fun c27 => ?_)
                      · refine RT.goto rfl ?_
                        refine RS.weak [(2, .ref 2 0 0 0 5), (9, .ref 9 0 0 0 5)] [(2, .box [.str (⟨#[]⟩ : ByteArray), .str (⟨#[]⟩ : ByteArray), .str (⟨#[]⟩ : ByteArray), .int .i64 0, .str (⟨#[]⟩ : ByteArray)]), (9, .box [.str r24.1, .str r24.2.1, .str r24.2.2.1, .int .i64 1, .str r1.2.1])] ⟨Le.eq (by first | rfl | simp), Le.eq (by first | rfl | simp), trivial⟩ ⟨⟨_, rfl, LeO.refl _⟩, ⟨_, rfl, LeO.refl _⟩, trivial⟩ rfl (dom0 rfl) ?_
                        exact pileref1_PartsOf.loops k r24.1 r24.2.1 r24.2.2.1 1 r1.2.1 
                      · exact RT.done rfl rfl (Le.tup (LeL.cons (Le.refl _) (LeL.cons (Le.refl _) (LeL.nil)))) trivial rfl (dom0 rfl)
                  · refine RT.brF rfl ?_
                    refine RT.brF rfl ?_
                    refine RT.brF rfl ?_
                    refine RT.call0 rfl (fun _ h => pileref1_begin.ok r1.2.1 _ h) (LeL.eq rfl) (fun _ => rfl) (fun r29 => ?_)
                    refine RS.go ?_
                    refine RT.brB rfl (fun c30 => ?_) (fun c30 => ?_)
                    · refine RT.goto rfl ?_
                      refine RS.weak [(2, .ref 2 0 0 0 5), (9, .ref 9 0 0 0 5)] [(2, .box [.str (⟨#[]⟩ : ByteArray), .str (⟨#[]⟩ : ByteArray), .str (⟨#[]⟩ : ByteArray), .int .i64 0, .str (⟨#[]⟩ : ByteArray)]), (9, .box [.str r24.1, .str r24.2.1, .str r24.2.2.1, .int .i64 1, .str r1.2.1])] ⟨Le.eq (by first | rfl | simp), Le.eq (by first | rfl | simp), trivial⟩ ⟨⟨_, rfl, LeO.refl _⟩, ⟨_, rfl, LeO.refl _⟩, trivial⟩ rfl (dom0 rfl) ?_
                      exact pileref1_PartsOf.loops k r24.1 r24.2.1 r24.2.2.1 1 r1.2.1 
                    · exact RT.done rfl rfl (Le.tup (LeL.cons (Le.refl _) (LeL.cons (Le.refl _) (LeL.nil)))) trivial rfl (dom0 rfl)
    · refine RT.call0 rfl (fun _ h => pileref1_baseAt.ok k r1.1 _ h) (LeL.eq rfl) (fun _ => rfl) (fun r2 => ?_)
      refine RS.go ?_
      refine RT.br rfl (fun c4 => ?_) (fun c4 => ?_)
      · exact RT.done rfl rfl (Le.tup (LeL.cons (Le.refl _) (LeL.cons (Le.refl _) (LeL.nil)))) trivial rfl (dom0 rfl)
      · refine RT.call0 rfl (fun _ h => pileref1_PartsOf_1.ok k r1.1 _ h) (LeL.eq rfl) (fun _ => rfl) (fun r3 => ?_)
        refine RS.go ?_
        exact RT.done rfl rfl (Le.tup (LeL.cons (Le.refl _) (LeL.cons (Le.refl _) (LeL.nil)))) trivial rfl (dom0 rfl)
/-! ### call_isLetter: function 76 -/
def call_isLetter.f (a0 : Int) : Option (Bool) := (if a0 ≥ 97 then Option.some (decide (a0 ≤ 122)) else Option.some false)
theorem call_isLetter.ok (a0 : Int) (r : Bool) (h : call_isLetter.f a0 = some r) : Ct Tryd.prog B 76 [.int .u8 a0] (ofL []) (.bool r) (ofL []) := by
  refine Ct.of (Y := (fam Tryd.f76 [] [] [] (fun r : Bool => .bool r) (fun r => []))) Tryd.func76 rfl Tryd.call76 rfl rfl ?_ r h
  unfold call_isLetter.f
  refine RS.go ?_
  refine RT.br rfl (fun c1 => ?_) (fun c1 => ?_)
  · refine RT.brT rfl ?_
    refine RT.brT rfl ?_
    exact RT.done rfl rfl (Le.refl _) trivial rfl (dom0 rfl)
  · refine RT.brF rfl ?_
    refine RT.brF rfl ?_
    exact RT.done rfl rfl (Le.refl _) trivial rfl (dom0 rfl)
/-! ### call_isDigit: function 55 -/
def call_isDigit.f (a0 : Int) : Option (Bool) := (if a0 ≥ 48 then Option.some (decide (a0 ≤ 57)) else Option.some false)
theorem call_isDigit.ok (a0 : Int) (r : Bool) (h : call_isDigit.f a0 = some r) : Ct Tryd.prog B 55 [.int .u8 a0] (ofL []) (.bool r) (ofL []) := by
  refine Ct.of (Y := (fam Tryd.f55 [] [] [] (fun r : Bool => .bool r) (fun r => []))) Tryd.func55 rfl Tryd.call55 rfl rfl ?_ r h
  unfold call_isDigit.f
  refine RS.go ?_
  refine RT.br rfl (fun c1 => ?_) (fun c1 => ?_)
  · refine RT.brT rfl ?_
    refine RT.brT rfl ?_
    exact RT.done rfl rfl (Le.refl _) trivial rfl (dom0 rfl)
  · refine RT.brF rfl ?_
    refine RT.brF rfl ?_
    exact RT.done rfl rfl (Le.refl _) trivial rfl (dom0 rfl)
/-! ### call_isPlain: function 54 -/
mutual
def call_isPlain.j8 : Nat → ByteArray → Int → Int → Option (Int × Bool)
  | 0, _, _, _ => Option.none
  | k + 1, a0, x7, x2j8 => call_isPlain.l0 k a0 x2j8 (wrap64 (x7 + 1))
def call_isPlain.l0 : Nat → ByteArray → Int → Int → Option (Int × Bool)
  | 0, _, _, _ => Option.none
  | k + 1, a0, x2, x7 => (if x7 < (a0.size : Int) then (if 0 ≤ x7 then (if x7 < (a0.size : Int) then ((call_isLetter.f (bt a0 x7)).bind fun r3 => (if r3 = true then call_isPlain.j8 k a0 x7 (wrap64 (x2 + 1)) else (if 0 ≤ x7 then (if x7 < (a0.size : Int) then ((call_isDigit.f (bt a0 x7)).bind fun r6 => (if r6 = true then call_isPlain.j8 k a0 x7 x2 else Option.some (0, false))) else Option.none) else Option.none))) else Option.none) else Option.none) else Option.some (x2, true))
end
def call_isPlain.f (k : Nat) (a0 : ByteArray) : Option (Int × Bool) := call_isPlain.l0 k a0 0 0
theorem call_isPlain.loops : ∀ k, (∀ (a0 : ByteArray) (x7 : Int) (x2j8 : Int), RS (fam Tryd.f54 [8] [] [] (fun r : Int × Bool => .tup [.int .i64 r.1, .bool r.2]) (fun r => [])) (Func.reg Tryd.f54 8) ⟨ofT [(0, .str a0), (2, .int .i64 x2j8), (6, .int .i64 (a0.size : Int)), (7, .int .i64 x7)], ofL []⟩ (call_isPlain.j8 k a0 x7 x2j8)) ∧ (∀ (a0 : ByteArray) (x2 : Int) (x7 : Int), RS (fam Tryd.f54 [8] [] [] (fun r : Int × Bool => .tup [.int .i64 r.1, .bool r.2]) (fun r => [])) (Func.head Tryd.f54 0) ⟨ofT [(0, .str a0), (2, .int .i64 x2), (6, .int .i64 (a0.size : Int)), (7, .int .i64 x7)], ofL []⟩ (call_isPlain.l0 k a0 x2 x7))
  | 0 => ⟨by intro _ _ _; simp only [call_isPlain.j8]; exact RS.none, by intro _ _ _; simp only [call_isPlain.l0]; exact RS.none⟩
  | k + 1 => by
    have ih := call_isPlain.loops k
    refine ⟨?_, ?_⟩
    · intro a0 x7 x2j8
      simp only [call_isPlain.j8]
      refine RS.region ?_
      refine RS.go ?_
      refine RT.goto rfl ?_
      refine RS.weak [(0, .str a0), (2, .int .i64 x2j8), (6, .int .i64 (a0.size : Int)), (7, .int .i64 (wrap64 (x7 + 1)))] [] ⟨Le.eq (by first | rfl | simp), Le.eq (by first | rfl | simp), Le.eq (by first | rfl | simp), Le.eq (by first | rfl | simp), trivial⟩ trivial rfl (dom0 rfl) ?_
      exact ih.2 a0 x2j8 (wrap64 (x7 + 1)) 
    · intro a0 x2 x7
      simp only [call_isPlain.l0]
      refine RS.go ?_
      refine RT.br rfl (fun c9 => ?_) (fun c9 => ?_)
      · refine RT.br rfl (fun c1 => ?_) (fun c1 => RT.none)
        refine RT.br rfl (fun c2 => ?_) (fun c2 => RT.none)
        refine RT.call0 rfl (fun _ h => call_isLetter.ok (bt a0 x7) _ h) (LeL.eq rfl) (fun _ => rfl) (fun r3 => ?_)
        refine RS.go ?_
        refine RT.brB rfl (fun c8 => ?_) (fun c8 => ?_)
        · refine RT.goto rfl ?_
          refine RS.weak [(0, .str a0), (2, .int .i64 (wrap64 (x2 + 1))), (6, .int .i64 (a0.size : Int)), (7, .int .i64 x7)] [] ⟨Le.eq (by first | rfl | simp), Le.eq (by first | rfl | simp), Le.eq (by first | rfl | simp), Le.eq (by first | rfl | simp), trivial⟩ trivial rfl (dom0 rfl) ?_
          exact ih.1 a0 x7 (wrap64 (x2 + 1)) 
        · refine RT.br rfl (fun c4 => ?_) (fun c4 => RT.none)
          refine RT.br rfl (fun c5 => ?_) (fun c5 => RT.none)
          refine RT.call0 rfl (fun _ h => call_isDigit.ok (bt a0 x7) _ h) (LeL.eq rfl) (fun _ => rfl) (fun r6 => ?_)
          refine RS.go ?_
          refine RT.brBN rfl (fun c7 => ?_) (fun c7 => ?_)
          · refine RT.goto rfl ?_
            refine RS.weak [(0, .str a0), (2, .int .i64 x2), (6, .int .i64 (a0.size : Int)), (7, .int .i64 x7)] [] ⟨Le.eq (by first | rfl | simp), Le.eq (by first | rfl | simp), Le.eq (by first | rfl | simp), Le.eq (by first | rfl | simp), trivial⟩ trivial rfl (dom0 rfl) ?_
            exact ih.1 a0 x7 x2 
          · exact RT.done rfl rfl (Le.tup (LeL.cons (Le.refl _) (LeL.cons (Le.refl _) (LeL.nil)))) trivial rfl (dom0 rfl)
      · exact RT.done rfl rfl (Le.tup (LeL.cons (Le.refl _) (LeL.cons (Le.refl _) (LeL.nil)))) trivial rfl (dom0 rfl)
theorem call_isPlain.ok (k : Nat) (a0 : ByteArray) (r : Int × Bool) (h : call_isPlain.f k a0 = some r) : Ct Tryd.prog B 54 [.str a0] (ofL []) (.tup [.int .i64 r.1, .bool r.2]) (ofL []) := by
  refine Ct.of (Y := (fam Tryd.f54 [8] [] [] (fun r : Int × Bool => .tup [.int .i64 r.1, .bool r.2]) (fun r => []))) Tryd.func54 rfl Tryd.call54 rfl rfl ?_ r h
  unfold call_isPlain.f
  refine RS.go ?_
  refine RT.goto rfl ?_
  refine RS.weak [(0, .str a0), (2, .int .i64 0), (6, .int .i64 (a0.size : Int)), (7, .int .i64 0)] [] ⟨Le.eq (by first | rfl | simp), Le.eq (by first | rfl | simp), Le.eq (by first | rfl | simp), Le.eq (by first | rfl | simp), trivial⟩ trivial rfl (dom0 rfl) ?_
  exact (call_isPlain.loops k).2 a0 0 0 
/-! ### call_split: function 53 -/
def call_split.f (k : Nat) (a0 : ByteArray) : Option (Int × Bool) := ((call_isPlain.f k a0).bind fun r1 => (if r1.2 = true then (if (a0.size : Int) > 10 then Option.some (0, false) else ((strings_LastIndexAny.f k a0 (⟨#[48, 49, 50, 51, 52, 53, 54, 55, 56, 57]⟩ : ByteArray)).bind fun r2 => (if r2 < 1 then Option.some (0, false) else (if r2 > 3 then Option.some (0, false) else (if wrap64 ((wrap64 ((a0.size : Int) - r2)) - 1) < 1 then Option.some (0, false) else (if wrap64 ((wrap64 ((a0.size : Int) - r2)) - 1) > 4 then Option.some (0, false) else (if 0 ≤ r2 then (if r2 ≤ (a0.size : Int) then ((call_isPlain.f k (a0.extract 0 (r2).toNat)).bind fun r5 => Option.some (r2, (decide (r5.1 > 0)))) else Option.none) else Option.none))))))) else Option.some (0, false)))
theorem call_split.ok (k : Nat) (a0 : ByteArray) (r : Int × Bool) (h : call_split.f k a0 = some r) : Ct Tryd.prog B 53 [.str a0] (ofL []) (.tup [.int .i64 r.1, .bool r.2]) (ofL []) := by
  refine Ct.of (Y := (fam Tryd.f53 [] [] [] (fun r : Int × Bool => .tup [.int .i64 r.1, .bool r.2]) (fun r => []))) Tryd.func53 rfl Tryd.call53 rfl rfl ?_ r h
  unfold call_split.f
  refine RS.go ?_
  refine RT.call0 rfl (fun _ h => call_isPlain.ok k a0 _ h) (LeL.eq rfl) (fun _ => rfl) (fun r1 => ?_)
  refine RS.go ?_
  refine RT.brBN rfl (fun c11 => ?_) (fun c11 => ?_)
  · refine RT.brF rfl ?_
    refine RT.brF rfl ?_
    refine RT.brF rfl ?_
    refine RT.br rfl (fun c10 => ?_) (fun c10 => ?_)
    · exact RT.done rfl rfl (Le.tup (LeL.cons (Le.refl _) (LeL.cons (Le.refl _) (LeL.nil)))) trivial rfl (dom0 rfl)
    · refine RT.call0 rfl (fun _ h => strings_LastIndexAny.ok k a0 (⟨#[48, 49, 50, 51, 52, 53, 54, 55, 56, 57]⟩ : ByteArray) _ h) (LeL.eq rfl) (fun _ => rfl) (fun r2 => ?_)
      refine RS.go ?_
      refine RT.br rfl (fun c9 => ?_) (fun c9 => ?_)
      · refine RT.brT rfl ?_
        refine RT.brT rfl ?_
        refine RT.brT rfl ?_
        refine RT.brT rfl ?_
        refine RT.brT rfl ?_
        refine RT.brT rfl ?_
        refine RT.brT rfl ?_
        refine RT.brT rfl ?_
        refine RT.brT rfl ?_
        refine RT.brT rfl ?_
        refine RT.brT rfl ?_
        refine RT.brT rfl ?_
        refine RT.brT rfl ?_
        refine RT.brT rfl ?_
        refine RT.brT rfl ?_
        refine RT.brT rfl ?_
        refine RT.brT rfl ?_
        exact RT.done rfl rfl (Le.tup (LeL.cons (Le.refl _) (LeL.cons (Le.refl _) (LeL.nil)))) trivial rfl (dom0 rfl)
      · refine RT.brF rfl ?_
        refine RT.brF rfl ?_
        refine RT.br rfl (fun c8 => ?_) (fun c8 => ?_)
        · refine RT.brT rfl ?_
          refine RT.brT rfl ?_
          refine RT.brT rfl ?_
          refine RT.brT rfl ?_
          refine RT.brT rfl ?_
          refine RT.brT rfl ?_
          refine RT.brT rfl ?_
          refine RT.brT rfl ?_
          refine RT.brT rfl ?_
          refine RT.brT rfl ?_
          refine RT.brT rfl ?_
          refine RT.brT rfl ?_
          refine RT.brT rfl ?_
          refine RT.brT rfl ?_
          exact RT.done rfl rfl (Le.tup (LeL.cons (Le.refl _) (LeL.cons (Le.refl _) (LeL.nil)))) trivial rfl (dom0 rfl)
        · refine RT.brF rfl ?_
          refine RT.brF rfl ?_
          refine RT.brF rfl ?_
          refine RT.brF rfl ?_
          refine RT.brF rfl ?_
          refine RT.brF rfl ?_
          refine RT.br rfl (fun c7 => ?_) (fun c7 => ?_)
          · refine RT.brT rfl ?_
            refine RT.brT rfl ?_
            refine RT.brT rfl ?_
            refine RT.brT rfl ?_
            refine RT.brT rfl ?_
            refine RT.brT rfl ?_
            refine RT.brT rfl ?_
            exact RT.done rfl rfl (Le.tup (LeL.cons (Le.refl _) (LeL.cons (Le.refl _) (LeL.nil)))) trivial rfl (dom0 rfl)
          · refine RT.brF rfl ?_
            refine RT.brF rfl ?_
            refine RT.brF rfl ?_
            refine RT.brF rfl ?_
            refine RT.brF rfl ?_
            refine RT.brF rfl ?_
            refine RT.br rfl (fun c6 => ?_) (fun c6 => ?_)
            · exact RT.done rfl rfl (Le.tup (LeL.cons (Le.refl _) (LeL.cons (Le.refl _) (LeL.nil)))) trivial rfl (dom0 rfl)
            · refine RT.br rfl (fun c3 => ?_) (fun c3 => RT.none)
              refine RT.br rfl (fun c4 => ?_) (fun c4 => RT.none)
              refine RT.call0 rfl (fun _ h => call_isPlain.ok k (a0.extract 0 (r2).toNat) _ h) (LeL.eq rfl) (fun _ => rfl) (fun r5 => ?_)
              refine RS.go ?_
              exact RT.done rfl rfl (Le.tup (LeL.cons (Le.refl _) (LeL.cons (Le.refl _) (LeL.nil)))) trivial rfl (dom0 rfl)
  · refine RT.brT rfl ?_
    refine RT.brT rfl ?_
    refine RT.brT rfl ?_
    refine RT.brT rfl ?_
    exact RT.done rfl rfl (Le.tup (LeL.cons (Le.refl _) (LeL.cons (Le.refl _) (LeL.nil)))) trivial rfl (dom0 rfl)
/-! ### call_based: function 35 -/
def call_based.k0 : List DK := [⟨[], [], [3], []⟩, ⟨[2, 23], [2], [], [2]⟩, ⟨[14, 18, 22], [], [23], []⟩, ⟨[19, 21], [], [22], []⟩, ⟨[20], [], [21], []⟩, ⟨[4], [], [20], []⟩, ⟨[0], [], [19], []⟩, ⟨[15, 17], [], [18], []⟩, ⟨[16], [], [17], []⟩, ⟨[4], [], [16], []⟩, ⟨[0], [], [15], []⟩, ⟨[0], [], [14], []⟩]
def call_based.k1 : List Nat := [0, 0, 0, 4, 14, 0, 0, 64, 224, 511, 1023, 2047]
def call_based.f (k : Nat) (a0 : ByteArray) : Option (ByteArray × ByteArray × ByteArray × Int × ByteArray × Bool) := ((call_split.f k a0).bind fun r1 => (if r1.2 = true then (if 0 ≤ wrap64 (r1.1 + 1) then (if wrap64 (r1.1 + 1) ≤ (a0.size : Int) then (if 0 ≤ wrap64 (r1.1 + 1) then (if wrap64 (r1.1 + 1) ≤ (a0.size : Int) then Option.some (a0, a0.extract 0 (wrap64 (r1.1 + 1)).toNat, a0.extract (wrap64 (r1.1 + 1)).toNat ((a0.size : Int)).toNat, 0, (⟨#[]⟩ : ByteArray), true) else Option.none) else Option.none) else Option.none) else Option.none) else Option.some ((⟨#[]⟩ : ByteArray), (⟨#[]⟩ : ByteArray), (⟨#[]⟩ : ByteArray), 0, (⟨#[]⟩ : ByteArray), false)))
theorem call_based.ok (k : Nat) (a0 : ByteArray) (r : ByteArray × ByteArray × ByteArray × Int × ByteArray × Bool) (h : call_based.f k a0 = some r) : Ct Tryd.prog B 35 [.str a0] (ofL []) (.tup [.agg [.str r.1, .str r.2.1, .str r.2.2.1, .int .i64 r.2.2.2.1, .str r.2.2.2.2.1], .bool r.2.2.2.2.2]) (ofL []) := by
  refine Ct.of (Y := (fam Tryd.f35 [] [] [] (fun r : ByteArray × ByteArray × ByteArray × Int × ByteArray × Bool => .tup [.agg [.str r.1, .str r.2.1, .str r.2.2.1, .int .i64 r.2.2.2.1, .str r.2.2.2.2.1], .bool r.2.2.2.2.2]) (fun r => []))) Tryd.func35 rfl Tryd.call35 rfl rfl ?_ r h
  unfold call_based.f
  refine RS.go ?_
  refine RT.call0 rfl (fun _ h => call_split.ok k a0 _ h) (LeL.eq rfl) (fun _ => rfl) (fun r1 => ?_)
  refine RS.go ?_
  refine RT.brBN rfl (fun c6 => ?_) (fun c6 => ?_)
  · refine RT.goto rfl ?_
    refine RS.draw rfl ?_
    refine RD.br rfl (fun c2 => ?_) (fun c2 => RD.none)
    refine RD.br rfl (fun c3 => ?_) (fun c3 => RD.none)
    refine RD.br rfl (fun c4 => ?_) (fun c4 => RD.none)
    refine RD.br rfl (fun c5 => ?_) (fun c5 => RD.none)
    refine RD.fin call_based.k0 call_based.k1 rfl rfl (by decide +kernel) ?_
    refine RS.go ?_
    exact RT.done rfl rfl (Le.tup (LeL.cons (Le.refl _) (LeL.cons (Le.refl _) (LeL.nil)))) trivial rfl (dom0 rfl)
  · exact RT.done rfl rfl (Le.tup (LeL.cons (Le.refl _) (LeL.cons (Le.refl _) (LeL.nil)))) trivial rfl (dom0 rfl)
/-! ### call_isBegin: function 36 -/
def call_isBegin.f (k : Nat) (a0 : ByteArray) : Option (Bool) := ((call_isPlain.f k a0).bind fun r1 => (if r1.2 = true then (if r1.1 > 0 then Option.some (decide ((a0.size : Int) ≤ 4)) else Option.some false) else Option.some false))
theorem call_isBegin.ok (k : Nat) (a0 : ByteArray) (r : Bool) (h : call_isBegin.f k a0 = some r) : Ct Tryd.prog B 36 [.str a0] (ofL []) (.bool r) (ofL []) := by
  refine Ct.of (Y := (fam Tryd.f36 [] [] [] (fun r : Bool => .bool r) (fun r => []))) Tryd.func36 rfl Tryd.call36 rfl rfl ?_ r h
  unfold call_isBegin.f
  refine RS.go ?_
  refine RT.call0 rfl (fun _ h => call_isPlain.ok k a0 _ h) (LeL.eq rfl) (fun _ => rfl) (fun r1 => ?_)
  refine RS.go ?_
  refine RT.brB rfl (fun c3 => ?_) (fun c3 => ?_)
  · refine RT.brT rfl ?_
    refine RT.brT rfl ?_
    refine RT.br rfl (fun c2 => ?_) (fun c2 => ?_)
    · refine RT.brT rfl ?_
      refine RT.brT rfl ?_
      refine RT.brT rfl ?_
      exact RT.done rfl rfl (Le.refl _) trivial rfl (dom0 rfl)
    · refine RT.brF rfl ?_
      refine RT.brF rfl ?_
      refine RT.brF rfl ?_
      exact RT.done rfl rfl (Le.refl _) trivial rfl (dom0 rfl)
  · refine RT.brF rfl ?_
    refine RT.brF rfl ?_
    refine RT.brF rfl ?_
    refine RT.brF rfl ?_
    refine RT.brF rfl ?_
    refine RT.brF rfl ?_
    exact RT.done rfl rfl (Le.refl _) trivial rfl (dom0 rfl)
/-! ### call_tail: function 37 -/
def call_tail.f (k : Nat) (a0 : ByteArray) : Option (Int × ByteArray × Bool) := (if a0 = (⟨#[112]⟩ : ByteArray) then Option.some (3, (⟨#[]⟩ : ByteArray), true) else (if a0 = (⟨#[109]⟩ : ByteArray) then Option.some (4, (⟨#[]⟩ : ByteArray), true) else (if a0 = (⟨#[109, 109]⟩ : ByteArray) then Option.some (5, (⟨#[]⟩ : ByteArray), true) else (if a0 = (⟨#[97, 109]⟩ : ByteArray) then Option.some (6, (⟨#[]⟩ : ByteArray), true) else (if (a0.size : Int) = 1 then (if 0 < (a0.size : Int) then ((call_isDigit.f (bt a0 0)).bind fun r2 => (if r2 = true then Option.some (2, a0, true) else ((call_isBegin.f k a0).bind fun r3 => Option.some (1, a0, r3)))) else Option.none) else ((call_isBegin.f k a0).bind fun r5 => Option.some (1, a0, r5)))))))
theorem call_tail.ok (k : Nat) (a0 : ByteArray) (r : Int × ByteArray × Bool) (h : call_tail.f k a0 = some r) : Ct Tryd.prog B 37 [.str a0] (ofL []) (.tup [.int .i64 r.1, .str r.2.1, .bool r.2.2]) (ofL []) := by
  refine Ct.of (Y := (fam Tryd.f37 [] [] [] (fun r : Int × ByteArray × Bool => .tup [.int .i64 r.1, .str r.2.1, .bool r.2.2]) (fun r => []))) Tryd.func37 rfl Tryd.call37 rfl rfl ?_ r h
  unfold call_tail.f
  refine RS.go ?_
  refine RT.br rfl (fun c10 => ?_) (fun c10 => ?_)
  · exact RT.done rfl rfl (Le.tup (LeL.cons (Le.refl _) (LeL.cons (Le.refl _) (LeL.cons (Le.refl _) (LeL.nil))))) trivial rfl (dom0 rfl)
  · refine RT.br rfl (fun c9 => ?_) (fun c9 => ?_)
    · exact RT.done rfl rfl (Le.tup (LeL.cons (Le.refl _) (LeL.cons (Le.refl _) (LeL.cons (Le.refl _) (LeL.nil))))) trivial rfl (dom0 rfl)
    · refine RT.br rfl (fun c8 => ?_) (fun c8 => ?_)
      · exact RT.done rfl rfl (Le.tup (LeL.cons (Le.refl _) (LeL.cons (Le.refl _) (LeL.cons (Le.refl _) (LeL.nil))))) trivial rfl (dom0 rfl)
      · refine RT.br rfl (fun c7 => ?_) (fun c7 => ?_)
        · exact RT.done rfl rfl (Le.tup (LeL.cons (Le.refl _) (LeL.cons (Le.refl _) (LeL.cons (Le.refl _) (LeL.nil))))) trivial rfl (dom0 rfl)
        · refine RT.br rfl (fun c6 => ?_) (fun c6 => ?_)
          · refine RT.brT rfl ?_
            refine RT.brT rfl ?_
            refine RT.br rfl (fun c1 => ?_) (fun c1 => RT.none)
            refine RT.brT rfl ?_
            refine RT.call0 rfl (fun _ h => call_isDigit.ok (bt a0 0) _ h) (LeL.eq rfl) (fun _ => rfl) (fun r2 => ?_)
            refine RS.go ?_
            refine RT.brT rfl ?_
            refine RT.brB rfl (fun c4 => ?_) (fun c4 => ?_)
            · exact RT.done rfl rfl (Le.tup (LeL.cons (Le.refl _) (LeL.cons (Le.refl _) (LeL.cons (Le.refl _) (LeL.nil))))) trivial rfl (dom0 rfl)
            · refine RT.call0 rfl (fun _ h => call_isBegin.ok k a0 _ h) (LeL.eq rfl) (fun _ => rfl) (fun r3 => ?_)
              refine RS.go ?_
              exact RT.done rfl rfl (Le.tup (LeL.cons (Le.refl _) (LeL.cons (Le.refl _) (LeL.cons (Le.refl _) (LeL.nil))))) trivial rfl (dom0 rfl)
          · refine RT.brF rfl ?_
            refine RT.brF rfl ?_
            refine RT.brF rfl ?_
            refine RT.brF rfl ?_
            refine RT.call0 rfl (fun _ h => call_isBegin.ok k a0 _ h) (LeL.eq rfl) (fun _ => rfl) (fun r5 => ?_)
            refine RS.go ?_
            exact RT.done rfl rfl (Le.tup (LeL.cons (Le.refl _) (LeL.cons (Le.refl _) (LeL.cons (Le.refl _) (LeL.nil))))) trivial rfl (dom0 rfl)
/-! ### call_Parts: function 23 -/
def call_Parts.f (k : Nat) (a0 : ByteArray) : Option (ByteArray × ByteArray × ByteArray × Int × ByteArray × Bool) := (if (a0.size : Int) > 14 then Option.some ((⟨#[]⟩ : ByteArray), (⟨#[]⟩ : ByteArray), (⟨#[]⟩ : ByteArray), 0, (⟨#[]⟩ : ByteArray), false) else ((call_based.f k a0).bind fun r1 => (if r1.2.2.2.2.2 = true then Option.some (r1.1, r1.2.1, r1.2.2.1, r1.2.2.2.1, r1.2.2.2.2.1, true) else ((strings_Cut.f a0 (⟨#[47]⟩ : ByteArray)).bind fun r2 => (if r2.2.2 = true then ((call_based.f k r2.2.1).bind fun r3 => (if r3.2.2.2.2.2 = true then ((call_isBegin.f k r2.1).bind fun r4 => (if r4 = true then Option.some (r3.1, r3.2.1, r3.2.2.1, 1, r2.1, true) else ((call_based.f k r2.1).bind fun r5 => ((call_tail.f k r2.2.1).bind fun r6 => (if r5.2.2.2.2.2 = true then (if r6.2.2 = true then Option.some (r5.1, r5.2.1, r5.2.2.1, r6.1, r6.2.1, true) else Option.some ((⟨#[]⟩ : ByteArray), (⟨#[]⟩ : ByteArray), (⟨#[]⟩ : ByteArray), 0, (⟨#[]⟩ : ByteArray), false)) else Option.some ((⟨#[]⟩ : ByteArray), (⟨#[]⟩ : ByteArray), (⟨#[]⟩ : ByteArray), 0, (⟨#[]⟩ : ByteArray), false)))))) else ((call_based.f k r2.1).bind fun r10 => ((call_tail.f k r2.2.1).bind fun r11 => (if r10.2.2.2.2.2 = true then (if r11.2.2 = true then Option.some (r10.1, r10.2.1, r10.2.2.1, r11.1, r11.2.1, true) else Option.some ((⟨#[]⟩ : ByteArray), (⟨#[]⟩ : ByteArray), (⟨#[]⟩ : ByteArray), 0, (⟨#[]⟩ : ByteArray), false)) else Option.some ((⟨#[]⟩ : ByteArray), (⟨#[]⟩ : ByteArray), (⟨#[]⟩ : ByteArray), 0, (⟨#[]⟩ : ByteArray), false)))))) else Option.some ((⟨#[]⟩ : ByteArray), (⟨#[]⟩ : ByteArray), (⟨#[]⟩ : ByteArray), 0, (⟨#[]⟩ : ByteArray), false))))))
theorem call_Parts.ok (k : Nat) (a0 : ByteArray) (r : ByteArray × ByteArray × ByteArray × Int × ByteArray × Bool) (h : call_Parts.f k a0 = some r) : Ct Tryd.prog B 23 [.str a0] (ofL []) (.tup [.agg [.str r.1, .str r.2.1, .str r.2.2.1, .int .i64 r.2.2.2.1, .str r.2.2.2.2.1], .bool r.2.2.2.2.2]) (ofL []) := by
  refine Ct.of (Y := (fam Tryd.f23 [] [] [] (fun r : ByteArray × ByteArray × ByteArray × Int × ByteArray × Bool => .tup [.agg [.str r.1, .str r.2.1, .str r.2.2.1, .int .i64 r.2.2.2.1, .str r.2.2.2.2.1], .bool r.2.2.2.2.2]) (fun r => []))) Tryd.func23 rfl Tryd.call23 rfl rfl ?_ r h
  unfold call_Parts.f
  refine RS.go ?_
  refine RT.br rfl (fun c17 => ?_) (fun c17 => ?_)
  · exact RT.done rfl rfl (Le.tup (LeL.cons (Le.refl _) (LeL.cons (Le.refl _) (LeL.nil)))) trivial rfl (dom0 rfl)
  · refine RT.call0 rfl (fun _ h => call_based.ok k a0 _ h) (LeL.eq rfl) (fun _ => rfl) (fun r1 => ?_)
    refine RS.go ?_
    refine RT.brB rfl (fun c16 => ?_) (fun c16 => ?_)
    · exact RT.done rfl rfl (Le.tup (LeL.cons (Le.refl _) (LeL.cons (Le.refl _) (LeL.nil)))) trivial rfl (dom0 rfl)
    · refine RT.call0 rfl (fun _ h => strings_Cut.ok a0 (⟨#[47]⟩ : ByteArray) _ h) (LeL.eq rfl) (fun _ => rfl) (fun r2 => ?_)
      refine RS.go ?_
      refine RT.brBN rfl (fun c15 => ?_) (fun c15 => ?_)
      · refine RT.call0 rfl (fun _ h => call_based.ok k r2.2.1 _ h) (LeL.eq rfl) (fun _ => rfl) (fun r3 => ?_)
        refine RS.go ?_
        refine RT.brB rfl (fun c14 => ?_) (fun c14 => ?_)
        · refine RT.brT rfl ?_
          refine RT.call0 rfl (fun _ h => call_isBegin.ok k r2.1 _ h) (LeL.eq rfl) (fun _ => rfl) (fun r4 => ?_)
          refine RS.go ?_
          refine RT.brT rfl ?_
          refine RT.brB rfl (fun c9 => ?_) (fun c9 => ?_)
          · exact RT.done rfl rfl (Le.tup (LeL.cons (Le.refl _) (LeL.cons (Le.refl _) (LeL.nil)))) trivial rfl (dom0 rfl)
          · refine RT.call0 rfl (fun _ h => call_based.ok k r2.1 _ h) (LeL.eq rfl) (fun _ => rfl) (fun r5 => ?_)
            refine RS.go ?_
            refine RT.call0 rfl (fun _ h => call_tail.ok k r2.2.1 _ h) (LeL.eq rfl) (fun _ => rfl) (fun r6 => ?_)
            refine RS.go ?_
            refine RT.brBN rfl (fun c8 => ?_) (fun c8 => ?_)
            · refine RT.brF rfl ?_
              refine RT.brF rfl ?_
              refine RT.brBN rfl (fun c7 => ?_) (fun c7 => ?_)
              · exact RT.done rfl rfl (Le.tup (LeL.cons (Le.refl _) (LeL.cons (Le.refl _) (LeL.nil)))) trivial rfl (dom0 rfl)
              · exact RT.done rfl rfl (Le.tup (LeL.cons (Le.refl _) (LeL.cons (Le.refl _) (LeL.nil)))) trivial rfl (dom0 rfl)
            · refine RT.brT rfl ?_
              refine RT.brT rfl ?_
              refine RT.brT rfl ?_
              exact RT.done rfl rfl (Le.tup (LeL.cons (Le.refl _) (LeL.cons (Le.refl _) (LeL.nil)))) trivial rfl (dom0 rfl)
        · refine RT.brF rfl ?_
          refine RT.brF rfl ?_
          refine RT.brF rfl ?_
          refine RT.call0 rfl (fun _ h => call_based.ok k r2.1 _ h) (LeL.eq rfl) (fun _ => rfl) (fun r10 => ?_)
          refine RS.go ?_
          refine RT.call0 rfl (fun _ h => call_tail.ok k r2.2.1 _ h) (LeL.eq rfl) (fun _ => rfl) (fun r11 => ?_)
          refine RS.go ?_
          refine RT.brBN rfl (fun c13 => ?_) (fun c13 => ?_)
          · refine RT.brF rfl ?_
            refine RT.brF rfl ?_
            refine RT.brBN rfl (fun c12 => ?_) (fun c12 => ?_)
            · exact RT.done rfl rfl (Le.tup (LeL.cons (Le.refl _) (LeL.cons (Le.refl _) (LeL.nil)))) trivial rfl (dom0 rfl)
            · exact RT.done rfl rfl (Le.tup (LeL.cons (Le.refl _) (LeL.cons (Le.refl _) (LeL.nil)))) trivial rfl (dom0 rfl)
          · refine RT.brT rfl ?_
            refine RT.brT rfl ?_
            refine RT.brT rfl ?_
            exact RT.done rfl rfl (Le.tup (LeL.cons (Le.refl _) (LeL.cons (Le.refl _) (LeL.nil)))) trivial rfl (dom0 rfl)
      · exact RT.done rfl rfl (Le.tup (LeL.cons (Le.refl _) (LeL.cons (Le.refl _) (LeL.nil)))) trivial rfl (dom0 rfl)
/-! ### call_Apart: function 7 -/
def call_Apart.f (k : Nat) (a0 : ByteArray) : Option (ByteArray × ByteArray × ByteArray × Int × ByteArray × Int) := ((call_Parts.f k a0).bind fun r1 => (if r1.2.2.2.2.2 = true then Option.some (r1.1, r1.2.1, r1.2.2.1, r1.2.2.2.1, r1.2.2.2.2.1, 0) else Option.some ((⟨#[]⟩ : ByteArray), (⟨#[]⟩ : ByteArray), (⟨#[]⟩ : ByteArray), 0, (⟨#[]⟩ : ByteArray), 3)))
theorem call_Apart.ok (k : Nat) (a0 : ByteArray) (r : ByteArray × ByteArray × ByteArray × Int × ByteArray × Int) (h : call_Apart.f k a0 = some r) : Ct Tryd.prog B 7 [.str a0] (ofL []) (.tup [.agg [.str r.1, .str r.2.1, .str r.2.2.1, .int .i64 r.2.2.2.1, .str r.2.2.2.2.1], .int .i64 r.2.2.2.2.2]) (ofL []) := by
  refine Ct.of (Y := (fam Tryd.f7 [] [] [] (fun r : ByteArray × ByteArray × ByteArray × Int × ByteArray × Int => .tup [.agg [.str r.1, .str r.2.1, .str r.2.2.1, .int .i64 r.2.2.2.1, .str r.2.2.2.2.1], .int .i64 r.2.2.2.2.2]) (fun r => []))) Tryd.func7 rfl Tryd.call7 rfl rfl ?_ r h
  unfold call_Apart.f
  refine RS.go ?_
  refine RT.call0 rfl (fun _ h => call_Parts.ok k a0 _ h) (LeL.eq rfl) (fun _ => rfl) (fun r1 => ?_)
  refine RS.go ?_
  refine RT.brBN rfl (fun c2 => ?_) (fun c2 => ?_)
  · exact RT.done rfl rfl (Le.tup (LeL.cons (Le.refl _) (LeL.cons (Le.refl _) (LeL.nil)))) trivial rfl (dom0 rfl)
  · exact RT.done rfl rfl (Le.tup (LeL.cons (Le.refl _) (LeL.cons (Le.refl _) (LeL.nil)))) trivial rfl (dom0 rfl)
/-! ### call_Base: function 8 -/
def call_Base.f (k : Nat) (a0 : ByteArray) : Option (ByteArray × Int) := ((call_Apart.f k a0).bind fun r1 => Option.some (r1.1, r1.2.2.2.2.2))
theorem call_Base.ok (k : Nat) (a0 : ByteArray) (r : ByteArray × Int) (h : call_Base.f k a0 = some r) : Ct Tryd.prog B 8 [.str a0] (ofL []) (.tup [.str r.1, .int .i64 r.2]) (ofL []) := by
  refine Ct.of (Y := (fam Tryd.f8 [] [] [] (fun r : ByteArray × Int => .tup [.str r.1, .int .i64 r.2]) (fun r => []))) Tryd.func8 rfl Tryd.call8 rfl rfl ?_ r h
  unfold call_Base.f
  refine RS.go ?_
  refine RT.call0 rfl (fun _ h => call_Apart.ok k a0 _ h) (LeL.eq rfl) (fun _ => rfl) (fun r1 => ?_)
  refine RS.go ?_
  exact RT.done rfl rfl (Le.tup (LeL.cons (Le.refl _) (LeL.cons (Le.refl _) (LeL.nil)))) trivial rfl (dom0 rfl)
/-! ### pilelaw1_when: function 9 -/
def pilelaw1_when.f (a0 : Bool) (a1 : Int) : Option (Int) := (if a0 = true then Option.some a1 else Option.some 0)
theorem pilelaw1_when.ok (a0 : Bool) (a1 : Int) (r : Int) (h : pilelaw1_when.f a0 a1 = some r) : Ct Tryd.prog B 9 [.bool a0, .int .i64 a1] (ofL []) (.int .i64 r) (ofL []) := by
  refine Ct.of (Y := (fam Tryd.f9 [] [] [] (fun r : Int => .int .i64 r) (fun r => []))) Tryd.func9 rfl Tryd.call9 rfl rfl ?_ r h
  unfold pilelaw1_when.f
  refine RS.go ?_
  refine RT.brB rfl (fun c1 => ?_) (fun c1 => ?_)
  · exact RT.done rfl rfl (Le.refl _) trivial rfl (dom0 rfl)
  · exact RT.done rfl rfl (Le.refl _) trivial rfl (dom0 rfl)
/-! ### call_Is: function 10 -/
def call_Is.f (k : Nat) (a0 : ByteArray) : Option (Bool) := ((call_Parts.f k a0).bind fun r1 => Option.some r1.2.2.2.2.2)
theorem call_Is.ok (k : Nat) (a0 : ByteArray) (r : Bool) (h : call_Is.f k a0 = some r) : Ct Tryd.prog B 10 [.str a0] (ofL []) (.bool r) (ofL []) := by
  refine Ct.of (Y := (fam Tryd.f10 [] [] [] (fun r : Bool => .bool r) (fun r => []))) Tryd.func10 rfl Tryd.call10 rfl rfl ?_ r h
  unfold call_Is.f
  refine RS.go ?_
  refine RT.call0 rfl (fun _ h => call_Parts.ok k a0 _ h) (LeL.eq rfl) (fun _ => rfl) (fun r1 => ?_)
  refine RS.go ?_
  exact RT.done rfl rfl (Le.refl _) trivial rfl (dom0 rfl)
/-! ### pilelaw1_called: function 11 -/
def pilelaw1_called.f (k : Nat) : Option (Bool) := ((call_Apart.f k (⟨#[111, 104, 50, 97, 98, 99, 47, 52]⟩ : ByteArray)).bind fun r1 => (if r1.2.2.2.2.2 = 0 then Option.some (decide (r1.1 = (⟨#[111, 104, 50, 97, 98, 99]⟩ : ByteArray)) && (decide (r1.2.1 = (⟨#[111, 104, 50]⟩ : ByteArray)) && (decide (r1.2.2.1 = (⟨#[97, 98, 99]⟩ : ByteArray)) && (decide (r1.2.2.2.1 = 2) && (decide (r1.2.2.2.2.1 = (⟨#[52]⟩ : ByteArray)) && true))))) else Option.some false))
theorem pilelaw1_called.ok (k : Nat) (r : Bool) (h : pilelaw1_called.f k  = some r) : Ct Tryd.prog B 11 [] (ofL []) (.bool r) (ofL []) := by
  refine Ct.of (Y := (fam Tryd.f11 [] [] [] (fun r : Bool => .bool r) (fun r => []))) Tryd.func11 rfl Tryd.call11 rfl rfl ?_ r h
  unfold pilelaw1_called.f
  refine RS.go ?_
  refine RT.call0 rfl (fun _ h => call_Apart.ok k (⟨#[111, 104, 50, 97, 98, 99, 47, 52]⟩ : ByteArray) _ h) (LeL.eq rfl) (fun _ => rfl) (fun r1 => ?_)
  refine RS.go ?_
  refine RT.br rfl (fun c2 => ?_) (fun c2 => ?_)
  · refine RT.brT rfl ?_
    refine RT.brT rfl ?_
    refine RT.brT rfl ?_
    exact RT.done rfl rfl (Le.refl _) trivial rfl (dom0 rfl)
  · refine RT.brF rfl ?_
    refine RT.brF rfl ?_
    refine RT.brF rfl ?_
    exact RT.done rfl rfl (Le.refl _) trivial rfl (dom0 rfl)
/-! ### pilelaw1_CallsApart: function 3 -/
def pilelaw1_CallsApart.f (k : Nat) (l0 : List Int) : Option (Bool) := ((pilemake_Stream_CallOf.f k l0 0).bind fun r1 => ((pileref1_PartsOf.f k r1.1).bind fun r2 => ((call_Apart.f k r1.1).bind fun r3 => ((call_Base.f k r1.1).bind fun r4 => ((pilelaw1_when.f (!r2.2.2.2.2.2) 3).bind fun r5 => ((call_Is.f k r1.1).bind fun r6 => (if (r6 == r2.2.2.2.2.2) = true then (if r3.2.2.2.2.2 = r5 then (if (decide (r3.1 = r2.1) && (decide (r3.2.1 = r2.2.1) && (decide (r3.2.2.1 = r2.2.2.1) && (decide (r3.2.2.2.1 = r2.2.2.2.1) && (decide (r3.2.2.2.2.1 = r2.2.2.2.2.1) && true))))) = true then (if r4.2 = r5 then (if r4.1 = r2.1 then ((pilelaw1_called.f k ).bind fun r7 => Option.some r7) else Option.some false) else Option.some false) else Option.some false) else Option.some false) else Option.some false)))))))
theorem pilelaw1_CallsApart.ok (k : Nat) (l0 : List Int) (r : Bool) (h : pilelaw1_CallsApart.f k l0 = some r) : Ct Tryd.prog B 3 [sq eI l0] (ofL []) (.bool r) (ofL []) := by
  refine Ct.of (Y := (fam Tryd.f3 [] [] [] (fun r : Bool => .bool r) (fun r => []))) Tryd.func3 rfl Tryd.call3 rfl rfl ?_ r h
  unfold pilelaw1_CallsApart.f
  refine RS.go ?_
  refine RT.call rfl (fun _ h => pilemake_Stream_CallOf.ok k l0 0 _ h) (fun i => bif Nat.beq i 100000 then 14 else i) (LeL.eq rfl) ⟨⟨_, rfl, LeO.refl _⟩, trivial⟩ (fun _ => rfl) (fun r1 => ?_)
  refine RS.go ?_
  refine RT.call0 rfl (fun _ h => pileref1_PartsOf.ok k r1.1 _ h) (LeL.eq rfl) (fun _ => rfl) (fun r2 => ?_)
  refine RS.go ?_
  refine RT.call0 rfl (fun _ h => call_Apart.ok k r1.1 _ h) (LeL.eq rfl) (fun _ => rfl) (fun r3 => ?_)
  refine RS.go ?_
  refine RT.call0 rfl (fun _ h => call_Base.ok k r1.1 _ h) (LeL.eq rfl) (fun _ => rfl) (fun r4 => ?_)
  refine RS.go ?_
  refine RT.call0 rfl (fun _ h => pilelaw1_when.ok (!r2.2.2.2.2.2) 3 _ h) (LeL.eq rfl) (fun _ => rfl) (fun r5 => ?_)
  refine RS.go ?_
  refine RT.call0 rfl (fun _ h => call_Is.ok k r1.1 _ h) (LeL.eq rfl) (fun _ => rfl) (fun r6 => ?_)
  refine RS.go ?_
  refine RT.brB rfl (fun c12 => ?_) (fun c12 => ?_)
  · refine RT.brT rfl ?_
    refine RT.brT rfl ?_
    refine RT.brT rfl ?_
    refine RT.br rfl (fun c11 => ?_) (fun c11 => ?_)
    · refine RT.brT rfl ?_
      refine RT.brT rfl ?_
      refine RT.brT rfl ?_
      refine RT.brB rfl (fun c10 => ?_) (fun c10 => ?_)
      · refine RT.brT rfl ?_
        refine RT.brT rfl ?_
        refine RT.brT rfl ?_
        refine RT.br rfl (fun c9 => ?_) (fun c9 => ?_)
        · refine RT.brT rfl ?_
          refine RT.brT rfl ?_
          refine RT.brT rfl ?_
          refine RT.brT rfl ?_
          refine RT.br rfl (fun c8 => ?_) (fun c8 => ?_)
          · refine RT.call0 rfl (fun _ h => pilelaw1_called.ok k  _ h) (LeL.eq rfl) (fun _ => rfl) (fun r7 => ?_)
            refine RS.go ?_
            refine RT.brT rfl ?_
            exact RT.done rfl rfl (Le.refl _) trivial rfl (dom0 rfl)
          · refine RT.brF rfl ?_
            exact RT.done rfl rfl (Le.refl _) trivial rfl (dom0 rfl)
        · refine RT.brF rfl ?_
          refine RT.brF rfl ?_
          refine RT.brF rfl ?_
          refine RT.brF rfl ?_
          refine RT.brF rfl ?_
          refine RT.brF rfl ?_
          exact RT.done rfl rfl (Le.refl _) trivial rfl (dom0 rfl)
      · refine RT.brF rfl ?_
        refine RT.brF rfl ?_
        refine RT.brF rfl ?_
        refine RT.brF rfl ?_
        refine RT.brF rfl ?_
        refine RT.brF rfl ?_
        refine RT.brF rfl ?_
        refine RT.brF rfl ?_
        refine RT.brF rfl ?_
        refine RT.brF rfl ?_
        exact RT.done rfl rfl (Le.refl _) trivial rfl (dom0 rfl)
    · refine RT.brF rfl ?_
      refine RT.brF rfl ?_
      refine RT.brF rfl ?_
      refine RT.brF rfl ?_
      refine RT.brF rfl ?_
      refine RT.brF rfl ?_
      refine RT.brF rfl ?_
      refine RT.brF rfl ?_
      refine RT.brF rfl ?_
      refine RT.brF rfl ?_
      refine RT.brF rfl ?_
      refine RT.brF rfl ?_
      refine RT.brF rfl ?_
      refine RT.brF rfl ?_
      exact RT.done rfl rfl (Le.refl _) trivial rfl (dom0 rfl)
  · refine RT.brF rfl ?_
    refine RT.brF rfl ?_
    refine RT.brF rfl ?_
    refine RT.brF rfl ?_
    refine RT.brF rfl ?_
    refine RT.brF rfl ?_
    refine RT.brF rfl ?_
    refine RT.brF rfl ?_
    refine RT.brF rfl ?_
    refine RT.brF rfl ?_
    refine RT.brF rfl ?_
    refine RT.brF rfl ?_
    refine RT.brF rfl ?_
    refine RT.brF rfl ?_
    refine RT.brF rfl ?_
    refine RT.brF rfl ?_
    refine RT.brF rfl ?_
    refine RT.brF rfl ?_
    exact RT.done rfl rfl (Le.refl _) trivial rfl (dom0 rfl)
end Go.EV
