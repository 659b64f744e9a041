/- Printed by a program of this session: a Lean function for each function that the law reaches, and that the code comes to it. -/
import Derived.Test.YtfbepmnpdnekdaaGreatDoorEvS
set_option linter.unusedVariables false
set_option linter.unusedSimpArgs false
namespace Go.EV
open Go Go.Proofs Go.RowKit
set_option maxHeartbeats 4000000
set_option maxRecDepth 100000
set_option linter.unusedVariables false
def str_0 : ByteArray := ⟨#[97, 98, 99, 100, 101, 102, 103, 104, 105, 106, 107, 108, 109, 110, 111, 112, 113, 114, 115, 116, 117, 118, 119, 120, 121, 122, 48, 49, 50, 51, 52, 53, 54, 55, 56, 57]⟩
def str_1 : ByteArray := ⟨#[97, 98, 99, 100, 101, 102, 103, 104, 105, 106, 107, 108, 109, 110, 111, 112, 113, 114, 115, 116, 117, 118, 119, 120, 121, 122]⟩
def str_2 : ByteArray := ⟨#[97, 32, 46, 45, 32, 98, 32, 45, 46, 46, 46, 32, 99, 32, 45, 46, 45, 46, 32, 100, 32, 45, 46, 46, 32, 101, 32, 46, 32, 102, 32, 46, 46, 45, 46, 32, 103, 32, 45, 45, 46, 32, 104, 32, 46, 46, 46, 46, 32, 105, 32, 46, 46, 32, 106, 32, 46, 45, 45, 45, 32, 107, 32, 45, 46, 45, 32, 108, 32, 46, 45, 46, 46, 32, 109, 32, 45, 45, 32, 110, 32, 45, 46, 32, 111, 32, 45, 45, 45, 32, 112, 32, 46, 45, 45, 46, 32, 113, 32, 45, 45, 46, 45, 32, 114, 32, 46, 45, 46, 32, 115, 32, 46, 46, 46, 32, 116, 32, 45, 32, 117, 32, 46, 46, 45, 32, 118, 32, 46, 46, 46, 45, 32, 119, 32, 46, 45, 45, 32, 120, 32, 45, 46, 46, 45, 32, 121, 32, 45, 46, 45, 45, 32, 122, 32, 45, 45, 46, 46, 32, 48, 32, 45, 45, 45, 45, 45, 32, 49, 32, 46, 45, 45, 45, 45, 32, 50, 32, 46, 46, 45, 45, 45, 32, 51, 32, 46, 46, 46, 45, 45, 32, 52, 32, 46, 46, 46, 46, 45, 32, 53, 32, 46, 46, 46, 46, 46, 32, 54, 32, 45, 46, 46, 46, 46, 32, 55, 32, 45, 45, 46, 46, 46, 32, 56, 32, 45, 45, 45, 46, 46, 32, 57, 32, 45, 45, 45, 45, 46, 32, 47, 32, 45, 46, 46, 45, 46, 32, 63, 32, 46, 46, 45, 45, 46, 46, 32, 61, 32, 45, 46, 46, 46, 45, 32, 43, 32, 46, 45, 46, 45, 46]⟩
def e_SS.c : (ByteArray × ByteArray) → Nat → AV
  | x, 0 => .str x.1
  | x, _ => .str x.2
def e_SS : Enc (ByteArray × ByteArray) := ⟨2, (ByteArray.empty, ByteArray.empty), e_SS.c⟩
def e_L.c : List ByteArray → Nat → AV
  | x, _ => sq eS x
def e_L : Enc (List ByteArray) := ⟨1, [], e_L.c⟩
/-! ### pilemake_Below: function 111 -/
def pilemake_Below.j6 : Nat → Int → Option (Int)
  | 0, _ => Option.none
  | k + 1, x0j6 => Option.some x0j6
def pilemake_Below.f (k : Nat) (a0 : Int) (a1 : Int) : Option (Int) := (if a1 < 1 then Option.some 0 else (if a1 = 0 then Option.none else (if Int.tmod a0 a1 < 0 then pilemake_Below.j6 k (wrap64 ((Int.tmod a0 a1) + a1)) else pilemake_Below.j6 k (Int.tmod a0 a1))))
theorem pilemake_Below.loops : ∀ k, (∀ (x0j6 : Int), RS (fam Tryz.f111 [6] [] [] (fun r : Int => .int .i64 r) (fun r => [])) (Func.reg Tryz.f111 6) ⟨ofT [(0, .int .i64 x0j6)], ofL []⟩ (pilemake_Below.j6 k x0j6))
  | 0 => by intro _; simp only [pilemake_Below.j6]; exact RS.none
  | k + 1 => by
    have ih := pilemake_Below.loops k
    · intro x0j6
      simp only [pilemake_Below.j6]
      refine RS.region ?_
      refine RS.go ?_
      exact RT.done rfl rfl (Le.refl _) trivial rfl (dom0 rfl)
theorem pilemake_Below.ok (k : Nat) (a0 : Int) (a1 : Int) (r : Int) (h : pilemake_Below.f k a0 a1 = some r) : Ct Tryz.prog B 111 [.int .i64 a0, .int .i64 a1] (ofL []) (.int .i64 r) (ofL []) := by
  refine Ct.of (Y := (fam Tryz.f111 [6] [] [] (fun r : Int => .int .i64 r) (fun r => []))) Tryz.func111 rfl Tryz.call111 rfl rfl ?_ r h
  unfold pilemake_Below.f
  refine RS.go ?_
  refine RT.br rfl (fun c3 => ?_) (fun c3 => ?_)
  · exact RT.done rfl rfl (Le.refl _) trivial rfl (dom0 rfl)
  · refine RT.br rfl (fun _ => RT.none) (fun c2 => ?_)
    refine RT.br rfl (fun c1 => ?_) (fun c1 => ?_)
    · refine RT.goto rfl ?_
      refine RS.weak [(0, .int .i64 (wrap64 ((Int.tmod a0 a1) + a1)))] [] ⟨Le.eq (by first | rfl | simp), trivial⟩ trivial rfl (dom0 rfl) ?_
      exact pilemake_Below.loops k (wrap64 ((Int.tmod a0 a1) + a1)) 
    · refine RT.goto rfl ?_
      refine RS.weak [(0, .int .i64 (Int.tmod a0 a1))] [] ⟨Le.eq (by first | rfl | simp), trivial⟩ trivial rfl (dom0 rfl) ?_
      exact pilemake_Below.loops k (Int.tmod a0 a1) 
/-! ### pilemake_Stream_Next: function 53 -/
def pilemake_Stream_Next.k0 : List DK := [⟨[48], [], [6], []⟩, ⟨[42, 47], [], [48], []⟩, ⟨[46], [], [47], []⟩, ⟨[45], [100000], [46], []⟩, ⟨[44], [100000], [45], []⟩, ⟨[43], [100000], [44], []⟩, ⟨[0], [], [43], []⟩, ⟨[41], [], [42], []⟩, ⟨[40], [100000], [41], []⟩, ⟨[39], [100000], [40], []⟩, ⟨[38], [100000], [39], []⟩, ⟨[0], [], [38], []⟩]
def pilemake_Stream_Next.k1 : List Nat := [0, 1, 3, 7, 15, 0, 32, 96, 224, 480, 1023, 2047]
def pilemake_Stream_Next.k2 : List DK := [⟨[37], [], [5], []⟩, ⟨[31, 36], [], [37], []⟩, ⟨[35], [], [36], []⟩, ⟨[34], [100000], [35], []⟩, ⟨[33], [100000], [34], []⟩, ⟨[32], [100000], [33], []⟩, ⟨[0], [], [32], []⟩, ⟨[30], [], [31], []⟩, ⟨[29], [100000], [30], []⟩, ⟨[28], [100000], [29], []⟩, ⟨[27], [100000], [28], []⟩, ⟨[0], [], [27], []⟩]
def pilemake_Stream_Next.f (k : Nat) (p0_0 : List Int) (p0_1 : Int) (a1 : Int) : Option (Int × (List Int) × Int) := (if (p0_0.length : Int) = 0 then ((pilemake_Below.f k (wrap64 ((wrap64 (p0_1 + 1)) * 7919)) a1).bind fun r1 => Option.some (r1, p0_0, wrap64 (p0_1 + 1))) else (if (p0_0.length : Int) = 0 then Option.none else (if (p0_0.length : Int) = 0 then Option.none else (if 0 ≤ Int.tmod (wrap64 ((wrap64 (p0_1 + 1)) - 1)) (p0_0.length : Int) then (if Int.tmod (wrap64 ((wrap64 (p0_1 + 1)) - 1)) (p0_0.length : Int) < (p0_0.length : Int) then ((pilemake_Below.f k (rd p0_0 (Int.tmod (wrap64 ((wrap64 (p0_1 + 1)) - 1)) (p0_0.length : Int))) 1073741824).bind fun r4 => ((pilemake_Below.f k (wrap64 (r4 + (wrap64 ((wrap64 (Int.tdiv (wrap64 ((wrap64 (p0_1 + 1)) - 1)) (p0_0.length : Int))) * (wrap64 (7919 + (Int.tmod (wrap64 ((wrap64 (p0_1 + 1)) - 1)) (p0_0.length : Int)))))))) a1).bind fun r5 => Option.some (r5, p0_0, wrap64 (p0_1 + 1)))) else Option.none) else Option.none))))
theorem pilemake_Stream_Next.ok (k : Nat) (p0_0 : List Int) (p0_1 : Int) (a1 : Int) (r : Int × (List Int) × Int) (h : pilemake_Stream_Next.f k p0_0 p0_1 a1 = some r) : Ct Tryz.prog B 53 [.ref 100000 0 0 0 2, .int .i64 a1] (ofL [(100000, .box [sq eI p0_0, .int .i64 p0_1])]) (.int .i64 r.1) (ofL [(100000, .box [sq eI r.2.1, .int .i64 r.2.2])]) := by
  refine Ct.of (Y := (fam Tryz.f53 [] [] [(100000, .box [sq eI p0_0, .int .i64 p0_1])] (fun r : Int × (List Int) × Int => .int .i64 r.1) (fun r => [(100000, .box [sq eI r.2.1, .int .i64 r.2.2])]))) Tryz.func53 rfl Tryz.call53 rfl rfl ?_ r h
  unfold pilemake_Stream_Next.f
  refine RS.go ?_
  refine RT.br rfl (fun c8 => ?_) (fun c8 => ?_)
  · refine RT.call0 rfl (fun _ h => pilemake_Below.ok k (wrap64 ((wrap64 (p0_1 + 1)) * 7919)) a1 _ h) (LeL.eq rfl) (fun _ => rfl) (fun r1 => ?_)
    refine RS.go ?_
    exact RT.done rfl rfl (Le.refl _) ⟨⟨_, rfl, LeO.refl _⟩, trivial⟩ rfl (dom_of rfl)
  · refine RT.goto rfl ?_
    refine RS.draw rfl ?_
    refine RD.br rfl (fun _ => RD.none) (fun c7 => ?_)
    refine RD.fin pilemake_Stream_Next.k2 pilemake_Stream_Next.k1 rfl rfl (by decide +kernel) ?_
    refine RS.go ?_
    refine RT.goto rfl ?_
    refine RS.draw rfl ?_
    refine RD.br rfl (fun _ => RD.none) (fun c6 => ?_)
    refine RD.fin pilemake_Stream_Next.k0 pilemake_Stream_Next.k1 rfl rfl (by decide +kernel) ?_
    refine RS.go ?_
    refine RT.br rfl (fun c2 => ?_) (fun c2 => RT.none)
    refine RT.br rfl (fun c3 => ?_) (fun c3 => RT.none)
    refine RT.call0 rfl (fun _ h => pilemake_Below.ok k (rd p0_0 (Int.tmod (wrap64 ((wrap64 (p0_1 + 1)) - 1)) (p0_0.length : Int))) 1073741824 _ h) (LeL.eq rfl) (fun _ => rfl) (fun r4 => ?_)
    refine RS.go ?_
    refine RT.call0 rfl (fun _ h => pilemake_Below.ok k (wrap64 (r4 + (wrap64 ((wrap64 (Int.tdiv (wrap64 ((wrap64 (p0_1 + 1)) - 1)) (p0_0.length : Int))) * (wrap64 (7919 + (Int.tmod (wrap64 ((wrap64 (p0_1 + 1)) - 1)) (p0_0.length : Int)))))))) a1 _ h) (LeL.eq rfl) (fun _ => rfl) (fun r5 => ?_)
    refine RS.go ?_
    exact RT.done rfl rfl (Le.refl _) ⟨⟨_, rfl, LeO.refl _⟩, trivial⟩ rfl (dom_of rfl)
/-! ### pilemake_Stream_Some: function 30 -/
def pilemake_Stream_Some.f (k : Nat) (p0_0 : List Int) (p0_1 : Int) (l1 : List ByteArray) : Option (ByteArray × (List Int) × Int) := ((pilemake_Stream_Next.f k p0_0 p0_1 (l1.length : Int)).bind fun r1 => (if 0 ≤ r1.1 then (if r1.1 < (l1.length : Int) then Option.some ((rdE eS l1 r1.1), r1.2.1, r1.2.2) else Option.none) else Option.none))
theorem pilemake_Stream_Some.ok (k : Nat) (p0_0 : List Int) (p0_1 : Int) (l1 : List ByteArray) (r : ByteArray × (List Int) × Int) (h : pilemake_Stream_Some.f k p0_0 p0_1 l1 = some r) : Ct Tryz.prog B 30 [.ref 100000 0 0 0 2, sq eS l1] (ofL [(100000, .box [sq eI p0_0, .int .i64 p0_1])]) (.str r.1) (ofL [(100000, .box [sq eI r.2.1, .int .i64 r.2.2])]) := by
  refine Ct.of (Y := (fam Tryz.f30 [] [] [(100000, .box [sq eI p0_0, .int .i64 p0_1])] (fun r : ByteArray × (List Int) × Int => .str r.1) (fun r => [(100000, .box [sq eI r.2.1, .int .i64 r.2.2])]))) Tryz.func30 rfl Tryz.call30 rfl rfl ?_ r h
  unfold pilemake_Stream_Some.f
  refine RS.go ?_
  refine RT.call rfl (fun _ h => pilemake_Stream_Next.ok k p0_0 p0_1 (l1.length : Int) _ h) (fun i => bif Nat.beq i 100000 then 100000 else i) (LeL.eq rfl) ⟨⟨_, rfl, LeO.refl _⟩, trivial⟩ (fun _ => rfl) (fun r1 => ?_)
  refine RS.go ?_
  refine RT.br rfl (fun c2 => ?_) (fun c2 => RT.none)
  refine RT.br rfl (fun c3 => ?_) (fun c3 => RT.none)
  exact RT.done rfl rfl (Le.refl _) ⟨⟨_, rfl, LeO.refl _⟩, trivial⟩ rfl (dom_of rfl)
/-! ### pilemake_Stream_Flip: function 37 -/
def pilemake_Stream_Flip.f (k : Nat) (p0_0 : List Int) (p0_1 : Int) (a1 : Int) : Option (Bool × (List Int) × Int) := ((pilemake_Stream_Next.f k p0_0 p0_1 a1).bind fun r1 => Option.some ((decide (r1.1 = 0)), r1.2.1, r1.2.2))
theorem pilemake_Stream_Flip.ok (k : Nat) (p0_0 : List Int) (p0_1 : Int) (a1 : Int) (r : Bool × (List Int) × Int) (h : pilemake_Stream_Flip.f k p0_0 p0_1 a1 = some r) : Ct Tryz.prog B 37 [.ref 100000 0 0 0 2, .int .i64 a1] (ofL [(100000, .box [sq eI p0_0, .int .i64 p0_1])]) (.bool r.1) (ofL [(100000, .box [sq eI r.2.1, .int .i64 r.2.2])]) := by
  refine Ct.of (Y := (fam Tryz.f37 [] [] [(100000, .box [sq eI p0_0, .int .i64 p0_1])] (fun r : Bool × (List Int) × Int => .bool r.1) (fun r => [(100000, .box [sq eI r.2.1, .int .i64 r.2.2])]))) Tryz.func37 rfl Tryz.call37 rfl rfl ?_ r h
  unfold pilemake_Stream_Flip.f
  refine RS.go ?_
  refine RT.call rfl (fun _ h => pilemake_Stream_Next.ok k p0_0 p0_1 a1 _ h) (fun i => bif Nat.beq i 100000 then 100000 else i) (LeL.eq rfl) ⟨⟨_, rfl, LeO.refl _⟩, trivial⟩ (fun _ => rfl) (fun r1 => ?_)
  refine RS.go ?_
  exact RT.done rfl rfl (Le.refl _) ⟨⟨_, rfl, LeO.refl _⟩, trivial⟩ rfl (dom_of rfl)
/-! ### pilemake_Stream_Changed: function 80 -/
def pilemake_Stream_Changed.k0 : List DK := [⟨[41], [], [6], []⟩, ⟨[36, 40], [], [41], []⟩, ⟨[37, 39], [], [40], []⟩, ⟨[38], [], [39], []⟩, ⟨[7], [], [38], []⟩, ⟨[1], [], [37], []⟩, ⟨[32, 35], [], [36], []⟩, ⟨[34], [], [35], []⟩, ⟨[33], [], [34], []⟩, ⟨[8], [], [33], []⟩, ⟨[30, 31], [], [32], []⟩, ⟨[7], [], [31], []⟩, ⟨[1], [], [30], []⟩]
def pilemake_Stream_Changed.k1 : List Nat := [0, 0, 3, 0, 8, 24, 63, 0, 0, 256, 896, 2047, 4095]
def pilemake_Stream_Changed.k2 : List DK := [⟨[54], [], [6], []⟩, ⟨[50, 53], [], [54], []⟩, ⟨[51, 52], [], [53], []⟩, ⟨[7], [], [52], []⟩, ⟨[1], [], [51], []⟩, ⟨[46, 49], [], [50], []⟩, ⟨[48], [], [49], []⟩, ⟨[47], [], [48], []⟩, ⟨[8], [], [47], []⟩, ⟨[44, 45], [], [46], []⟩, ⟨[7], [], [45], []⟩, ⟨[1], [], [44], []⟩]
def pilemake_Stream_Changed.k3 : List Nat := [0, 0, 3, 0, 8, 24, 63, 0, 0, 384, 1023, 2047]
def pilemake_Stream_Changed.k4 : List DK := [⟨[62], [], [6], []⟩, ⟨[57, 61], [], [62], []⟩, ⟨[58, 60], [], [61], []⟩, ⟨[59], [], [60], []⟩, ⟨[7], [], [59], []⟩, ⟨[1], [], [58], []⟩, ⟨[55, 56], [], [57], []⟩, ⟨[7], [], [56], []⟩, ⟨[1], [], [55], []⟩]
def pilemake_Stream_Changed.k5 : List Nat := [0, 0, 3, 0, 0, 16, 56, 127, 255]
def pilemake_Stream_Changed.f (k : Nat) (p0_0 : List Int) (p0_1 : Int) (a1 : ByteArray) (a2 : ByteArray) : Option (ByteArray × (List Int) × Int) := (if a1 = (⟨#[]⟩ : ByteArray) then Option.some (a2, p0_0, p0_1) else (if a2 = (⟨#[]⟩ : ByteArray) then Option.some (a2, p0_0, p0_1) else ((pilemake_Stream_Next.f k p0_0 p0_1 (a1.size : Int)).bind fun r1 => ((pilemake_Stream_Next.f k r1.2.1 r1.2.2 (a2.size : Int)).bind fun r2 => (if 0 ≤ r2.1 then (if r2.1 < (a2.size : Int) then ((pilemake_Stream_Next.f k r2.2.1 r2.2.2 3).bind fun r5 => (if r5.1 = 0 then (if 0 ≤ r1.1 then (if r1.1 ≤ (a1.size : Int) then (if (a1.extract 0 (r1.1).toNat).size + (Utf8.encode (IntKind.i32.wrap (bt a2 r2.1))).size ≤ 9223372036854775807 then (if 0 ≤ wrap64 (r1.1 + 1) then (if wrap64 (r1.1 + 1) ≤ (a1.size : Int) then (if ((a1.extract 0 (r1.1).toNat) ++ (Utf8.encode (IntKind.i32.wrap (bt a2 r2.1)))).size + (a1.extract (wrap64 (r1.1 + 1)).toNat ((a1.size : Int)).toNat).size ≤ 9223372036854775807 then Option.some (((a1.extract 0 (r1.1).toNat) ++ (Utf8.encode (IntKind.i32.wrap (bt a2 r2.1)))) ++ (a1.extract (wrap64 (r1.1 + 1)).toNat ((a1.size : Int)).toNat), r5.2.1, r5.2.2) else Option.none) else Option.none) else Option.none) else Option.none) else Option.none) else Option.none) else (if r5.1 = 1 then (if 0 ≤ r1.1 then (if r1.1 ≤ (a1.size : Int) then (if (a1.extract 0 (r1.1).toNat).size + (Utf8.encode (IntKind.i32.wrap (bt a2 r2.1))).size ≤ 9223372036854775807 then (if 0 ≤ r1.1 then (if r1.1 ≤ (a1.size : Int) then (if ((a1.extract 0 (r1.1).toNat) ++ (Utf8.encode (IntKind.i32.wrap (bt a2 r2.1)))).size + (a1.extract (r1.1).toNat ((a1.size : Int)).toNat).size ≤ 9223372036854775807 then Option.some (((a1.extract 0 (r1.1).toNat) ++ (Utf8.encode (IntKind.i32.wrap (bt a2 r2.1)))) ++ (a1.extract (r1.1).toNat ((a1.size : Int)).toNat), r5.2.1, r5.2.2) else Option.none) else Option.none) else Option.none) else Option.none) else Option.none) else Option.none) else (if 0 ≤ r1.1 then (if r1.1 ≤ (a1.size : Int) then (if 0 ≤ wrap64 (r1.1 + 1) then (if wrap64 (r1.1 + 1) ≤ (a1.size : Int) then (if (a1.extract 0 (r1.1).toNat).size + (a1.extract (wrap64 (r1.1 + 1)).toNat ((a1.size : Int)).toNat).size ≤ 9223372036854775807 then Option.some ((a1.extract 0 (r1.1).toNat) ++ (a1.extract (wrap64 (r1.1 + 1)).toNat ((a1.size : Int)).toNat), r5.2.1, r5.2.2) else Option.none) else Option.none) else Option.none) else Option.none) else Option.none)))) else Option.none) else Option.none)))))
theorem pilemake_Stream_Changed.ok (k : Nat) (p0_0 : List Int) (p0_1 : Int) (a1 : ByteArray) (a2 : ByteArray) (r : ByteArray × (List Int) × Int) (h : pilemake_Stream_Changed.f k p0_0 p0_1 a1 a2 = some r) : Ct Tryz.prog B 80 [.ref 100000 0 0 0 2, .str a1, .str a2] (ofL [(100000, .box [sq eI p0_0, .int .i64 p0_1])]) (.str r.1) (ofL [(100000, .box [sq eI r.2.1, .int .i64 r.2.2])]) := by
  refine Ct.of (Y := (fam Tryz.f80 [] [] [(100000, .box [sq eI p0_0, .int .i64 p0_1])] (fun r : ByteArray × (List Int) × Int => .str r.1) (fun r => [(100000, .box [sq eI r.2.1, .int .i64 r.2.2])]))) Tryz.func80 rfl Tryz.call80 rfl rfl ?_ r h
  unfold pilemake_Stream_Changed.f
  refine RS.go ?_
  refine RT.br rfl (fun c26 => ?_) (fun c26 => ?_)
  · refine RT.brT rfl ?_
    refine RT.brT rfl ?_
    refine RT.brT rfl ?_
    exact RT.done rfl rfl (Le.refl _) ⟨⟨_, rfl, LeO.refl _⟩, trivial⟩ rfl (dom_of rfl)
  · refine RT.brF rfl ?_
    refine RT.brF rfl ?_
    refine RT.br rfl (fun c25 => ?_) (fun c25 => ?_)
    · exact RT.done rfl rfl (Le.refl _) ⟨⟨_, rfl, LeO.refl _⟩, trivial⟩ rfl (dom_of rfl)
    · refine RT.call rfl (fun _ h => pilemake_Stream_Next.ok k p0_0 p0_1 (a1.size : Int) _ h) (fun i => bif Nat.beq i 100000 then 100000 else i) (LeL.eq rfl) ⟨⟨_, rfl, LeO.refl _⟩, trivial⟩ (fun _ => rfl) (fun r1 => ?_)
      refine RS.go ?_
      refine RT.call rfl (fun _ h => pilemake_Stream_Next.ok k r1.2.1 r1.2.2 (a2.size : Int) _ h) (fun i => bif Nat.beq i 100000 then 100000 else i) (LeL.eq rfl) ⟨⟨_, rfl, LeO.refl _⟩, trivial⟩ (fun _ => rfl) (fun r2 => ?_)
      refine RS.go ?_
      refine RT.br rfl (fun c3 => ?_) (fun c3 => RT.none)
      refine RT.br rfl (fun c4 => ?_) (fun c4 => RT.none)
      refine RT.call rfl (fun _ h => pilemake_Stream_Next.ok k r2.2.1 r2.2.2 3 _ h) (fun i => bif Nat.beq i 100000 then 100000 else i) (LeL.eq rfl) ⟨⟨_, rfl, LeO.refl _⟩, trivial⟩ (fun _ => rfl) (fun r5 => ?_)
      refine RS.go ?_
      refine RT.br rfl (fun c24 => ?_) (fun c24 => ?_)
      · refine RT.goto rfl ?_
        refine RS.draw rfl ?_
        refine RD.br rfl (fun c6 => ?_) (fun c6 => RD.none)
        refine RD.br rfl (fun c7 => ?_) (fun c7 => RD.none)
        refine RD.br rfl (fun c8 => ?_) (fun c8 => RD.none)
        refine RD.br rfl (fun c9 => ?_) (fun c9 => RD.none)
        refine RD.br rfl (fun c10 => ?_) (fun c10 => RD.none)
        refine RD.br rfl (fun c11 => ?_) (fun c11 => RD.none)
        refine RD.fin pilemake_Stream_Changed.k0 pilemake_Stream_Changed.k1 rfl rfl (by decide +kernel) ?_
        refine RS.go ?_
        exact RT.done rfl rfl (Le.refl _) ⟨⟨_, rfl, LeO.refl _⟩, trivial⟩ rfl (dom_of rfl)
      · refine RT.br rfl (fun c23 => ?_) (fun c23 => ?_)
        · refine RT.goto rfl ?_
          refine RS.draw rfl ?_
          refine RD.br rfl (fun c12 => ?_) (fun c12 => RD.none)
          refine RD.br rfl (fun c13 => ?_) (fun c13 => RD.none)
          refine RD.br rfl (fun c14 => ?_) (fun c14 => RD.none)
          refine RD.br rfl (fun c15 => ?_) (fun c15 => RD.none)
          refine RD.br rfl (fun c16 => ?_) (fun c16 => RD.none)
          refine RD.br rfl (fun c17 => ?_) (fun c17 => RD.none)
          refine RD.fin pilemake_Stream_Changed.k2 pilemake_Stream_Changed.k3 rfl rfl (by decide +kernel) ?_
          refine RS.go ?_
          exact RT.done rfl rfl (Le.refl _) ⟨⟨_, rfl, LeO.refl _⟩, trivial⟩ rfl (dom_of rfl)
        · refine RT.goto rfl ?_
          refine RS.draw rfl ?_
          refine RD.br rfl (fun c18 => ?_) (fun c18 => RD.none)
          refine RD.br rfl (fun c19 => ?_) (fun c19 => RD.none)
          refine RD.br rfl (fun c20 => ?_) (fun c20 => RD.none)
          refine RD.br rfl (fun c21 => ?_) (fun c21 => RD.none)
          refine RD.br rfl (fun c22 => ?_) (fun c22 => RD.none)
          refine RD.fin pilemake_Stream_Changed.k4 pilemake_Stream_Changed.k5 rfl rfl (by decide +kernel) ?_
          refine RS.go ?_
          exact RT.done rfl rfl (Le.refl _) ⟨⟨_, rfl, LeO.refl _⟩, trivial⟩ rfl (dom_of rfl)
/-! ### pilemake_Stream_CallOf: function 51 -/
mutual
def pilemake_Stream_CallOf.j12 : Nat → ByteArray → List Int → Int → Option (ByteArray × (List Int) × Int)
  | 0, _, _, _ => Option.none
  | k + 1, x4j12, o100000_0j12, o100000_1j12 => Option.some (x4j12, o100000_0j12, o100000_1j12)
def pilemake_Stream_CallOf.j10 : Nat → ByteArray → List Int → Int → Option (ByteArray × (List Int) × Int)
  | 0, _, _, _ => Option.none
  | k + 1, x4j10, o100000_0j10, o100000_1j10 => ((pilemake_Stream_Flip.f k o100000_0j10 o100000_1j10 12).bind fun r5 => (if r5.1 = true then ((pilemake_Stream_Changed.f k r5.2.1 r5.2.2 x4j10 (⟨#[97, 48, 47, 107, 49, 45]⟩ : ByteArray)).bind fun r6 => pilemake_Stream_CallOf.j12 k r6.1 r6.2.1 r6.2.2) else pilemake_Stream_CallOf.j12 k x4j10 r5.2.1 r5.2.2))
end
def pilemake_Stream_CallOf.f (k : Nat) (p0_0 : List Int) (p0_1 : Int) : Option (ByteArray × (List Int) × Int) := ((pilemake_Stream_Some.f k p0_0 p0_1 [(⟨#[107, 49, 97, 98]⟩ : ByteArray), (⟨#[107, 52, 97, 98]⟩ : ByteArray), (⟨#[111, 104, 50, 97, 98, 99]⟩ : ByteArray), (⟨#[111, 104, 48, 120]⟩ : ByteArray), (⟨#[51, 100, 97, 48, 120, 121]⟩ : ByteArray), (⟨#[103, 51, 97]⟩ : ByteArray), (⟨#[100, 108, 49, 122, 122]⟩ : ByteArray), (⟨#[119, 49, 97, 119]⟩ : ByteArray), (⟨#[107, 49, 98, 97]⟩ : ByteArray)]).bind fun r1 => ((pilemake_Stream_Next.f k r1.2.1 r1.2.2 9).bind fun r2 => (if r2.1 = 0 then ((pilemake_Stream_Some.f k r2.2.1 r2.2.2 [(⟨#[47, 112]⟩ : ByteArray), (⟨#[47, 109]⟩ : ByteArray), (⟨#[47, 109, 109]⟩ : ByteArray), (⟨#[47, 97, 109]⟩ : ByteArray), (⟨#[47, 52]⟩ : ByteArray), (⟨#[47, 48]⟩ : ByteArray)]).bind fun r3 => (if r1.1.size + r3.1.size ≤ 9223372036854775807 then pilemake_Stream_CallOf.j10 k (r1.1 ++ r3.1) r3.2.1 r3.2.2 else Option.none)) else (if r2.1 = 1 then ((pilemake_Stream_Some.f k r2.2.1 r2.2.2 [(⟨#[111, 104, 48]⟩ : ByteArray), (⟨#[103]⟩ : ByteArray), (⟨#[51, 97]⟩ : ByteArray), (⟨#[100, 108]⟩ : ByteArray)]).bind fun r8 => (if r8.1.size + (⟨#[47]⟩ : ByteArray).size ≤ 9223372036854775807 then (if (r8.1 ++ (⟨#[47]⟩ : ByteArray)).size + r1.1.size ≤ 9223372036854775807 then pilemake_Stream_CallOf.j10 k ((r8.1 ++ (⟨#[47]⟩ : ByteArray)) ++ r1.1) r8.2.1 r8.2.2 else Option.none) else Option.none)) else (if r2.1 = 2 then (if r1.1.size + (⟨#[47]⟩ : ByteArray).size ≤ 9223372036854775807 then ((pilemake_Stream_Some.f k r2.2.1 r2.2.2 [(⟨#[111, 104, 48]⟩ : ByteArray), (⟨#[103]⟩ : ByteArray), (⟨#[119, 50, 98]⟩ : ByteArray), (⟨#[107]⟩ : ByteArray)]).bind fun r12 => (if (r1.1 ++ (⟨#[47]⟩ : ByteArray)).size + r12.1.size ≤ 9223372036854775807 then pilemake_Stream_CallOf.j10 k ((r1.1 ++ (⟨#[47]⟩ : ByteArray)) ++ r12.1) r12.2.1 r12.2.2 else Option.none)) else Option.none) else pilemake_Stream_CallOf.j10 k r1.1 r2.2.1 r2.2.2)))))
theorem pilemake_Stream_CallOf.loops (p0_0 : List Int) (p0_1 : Int) : ∀ k, (∀ (x4j12 : ByteArray) (o100000_0j12 : List Int) (o100000_1j12 : Int), RS (fam Tryz.f51 [10, 12] [] [(100000, .box [sq eI p0_0, .int .i64 p0_1])] (fun r : ByteArray × (List Int) × Int => .str r.1) (fun r => [(100000, .box [sq eI r.2.1, .int .i64 r.2.2])])) (Func.reg Tryz.f51 12) ⟨ofT [(4, .str x4j12)], ofL [(100000, .box [sq eI o100000_0j12, .int .i64 o100000_1j12])]⟩ (pilemake_Stream_CallOf.j12 k x4j12 o100000_0j12 o100000_1j12)) ∧ (∀ (x4j10 : ByteArray) (o100000_0j10 : List Int) (o100000_1j10 : Int), RS (fam Tryz.f51 [10, 12] [] [(100000, .box [sq eI p0_0, .int .i64 p0_1])] (fun r : ByteArray × (List Int) × Int => .str r.1) (fun r => [(100000, .box [sq eI r.2.1, .int .i64 r.2.2])])) (Func.reg Tryz.f51 10) ⟨ofT [(0, .ref 100000 0 0 0 2), (4, .str x4j10)], ofL [(100000, .box [sq eI o100000_0j10, .int .i64 o100000_1j10])]⟩ (pilemake_Stream_CallOf.j10 k x4j10 o100000_0j10 o100000_1j10))
  | 0 => ⟨by intro _ _ _; simp only [pilemake_Stream_CallOf.j12]; exact RS.none, by intro _ _ _; simp only [pilemake_Stream_CallOf.j10]; exact RS.none⟩
  | k + 1 => by
    have ih := pilemake_Stream_CallOf.loops p0_0 p0_1 k
    refine ⟨?_, ?_⟩
    · intro x4j12 o100000_0j12 o100000_1j12
      simp only [pilemake_Stream_CallOf.j12]
      refine RS.region ?_
      refine RS.go ?_
      exact RT.done rfl rfl (Le.refl _) ⟨⟨_, rfl, LeO.refl _⟩, trivial⟩ rfl (dom_of rfl)
    · intro x4j10 o100000_0j10 o100000_1j10
      simp only [pilemake_Stream_CallOf.j10]
      refine RS.region ?_
      refine RS.go ?_
      refine RT.call rfl (fun _ h => pilemake_Stream_Flip.ok k o100000_0j10 o100000_1j10 12 _ h) (fun i => bif Nat.beq i 100000 then 100000 else i) (LeL.eq rfl) ⟨⟨_, rfl, LeO.refl _⟩, trivial⟩ (fun _ => rfl) (fun r5 => ?_)
      refine RS.go ?_
      refine RT.brB rfl (fun c7 => ?_) (fun c7 => ?_)
      · refine RT.call rfl (fun _ h => pilemake_Stream_Changed.ok k r5.2.1 r5.2.2 x4j10 (⟨#[97, 48, 47, 107, 49, 45]⟩ : ByteArray) _ h) (fun i => bif Nat.beq i 100000 then 100000 else i) (LeL.eq rfl) ⟨⟨_, rfl, LeO.refl _⟩, trivial⟩ (fun _ => rfl) (fun r6 => ?_)
        refine RS.go ?_
        refine RT.goto rfl ?_
        refine RS.weak [(4, .str r6.1)] [(100000, .box [sq eI r6.2.1, .int .i64 r6.2.2])] ⟨Le.eq (by first | rfl | simp), trivial⟩ ⟨⟨_, rfl, LeO.refl _⟩, trivial⟩ rfl (dom_of rfl) ?_
        exact ih.1 r6.1 r6.2.1 r6.2.2 
      · refine RT.goto rfl ?_
        refine RS.weak [(4, .str x4j10)] [(100000, .box [sq eI r5.2.1, .int .i64 r5.2.2])] ⟨Le.eq (by first | rfl | simp), trivial⟩ ⟨⟨_, rfl, LeO.refl _⟩, trivial⟩ rfl (dom_of rfl) ?_
        exact ih.1 x4j10 r5.2.1 r5.2.2 
theorem pilemake_Stream_CallOf.ok (k : Nat) (p0_0 : List Int) (p0_1 : Int) (r : ByteArray × (List Int) × Int) (h : pilemake_Stream_CallOf.f k p0_0 p0_1 = some r) : Ct Tryz.prog B 51 [.ref 100000 0 0 0 2] (ofL [(100000, .box [sq eI p0_0, .int .i64 p0_1])]) (.str r.1) (ofL [(100000, .box [sq eI r.2.1, .int .i64 r.2.2])]) := by
  refine Ct.of (Y := (fam Tryz.f51 [10, 12] [] [(100000, .box [sq eI p0_0, .int .i64 p0_1])] (fun r : ByteArray × (List Int) × Int => .str r.1) (fun r => [(100000, .box [sq eI r.2.1, .int .i64 r.2.2])]))) Tryz.func51 rfl Tryz.call51 rfl rfl ?_ r h
  unfold pilemake_Stream_CallOf.f
  refine RS.go ?_
  refine RT.goto rfl ?_
  refine RS.slot 6 (sq eS [(⟨#[107, 49, 97, 98]⟩ : ByteArray), (⟨#[107, 52, 97, 98]⟩ : ByteArray), (⟨#[111, 104, 50, 97, 98, 99]⟩ : ByteArray), (⟨#[111, 104, 48, 120]⟩ : ByteArray), (⟨#[51, 100, 97, 48, 120, 121]⟩ : ByteArray), (⟨#[103, 51, 97]⟩ : ByteArray), (⟨#[100, 108, 49, 122, 122]⟩ : ByteArray), (⟨#[119, 49, 97, 119]⟩ : ByteArray), (⟨#[107, 49, 98, 97]⟩ : ByteArray)]) (Le.lit (E := eS) (l := [(⟨#[107, 49, 97, 98]⟩ : ByteArray), (⟨#[107, 52, 97, 98]⟩ : ByteArray), (⟨#[111, 104, 50, 97, 98, 99]⟩ : ByteArray), (⟨#[111, 104, 48, 120]⟩ : ByteArray), (⟨#[51, 100, 97, 48, 120, 121]⟩ : ByteArray), (⟨#[103, 51, 97]⟩ : ByteArray), (⟨#[100, 108, 49, 122, 122]⟩ : ByteArray), (⟨#[119, 49, 97, 119]⟩ : ByteArray), (⟨#[107, 49, 98, 97]⟩ : ByteArray)]) (cells_of rfl)) ?_
  refine RS.go ?_
  refine RT.call rfl (fun _ h => pilemake_Stream_Some.ok k p0_0 p0_1 [(⟨#[107, 49, 97, 98]⟩ : ByteArray), (⟨#[107, 52, 97, 98]⟩ : ByteArray), (⟨#[111, 104, 50, 97, 98, 99]⟩ : ByteArray), (⟨#[111, 104, 48, 120]⟩ : ByteArray), (⟨#[51, 100, 97, 48, 120, 121]⟩ : ByteArray), (⟨#[103, 51, 97]⟩ : ByteArray), (⟨#[100, 108, 49, 122, 122]⟩ : ByteArray), (⟨#[119, 49, 97, 119]⟩ : ByteArray), (⟨#[107, 49, 98, 97]⟩ : ByteArray)] _ h) (fun i => bif Nat.beq i 100000 then 100000 else i) (LeL.eq rfl) ⟨⟨_, rfl, LeO.refl _⟩, trivial⟩ (fun _ => rfl) (fun r1 => ?_)
  refine RS.go ?_
  refine RT.call rfl (fun _ h => pilemake_Stream_Next.ok k r1.2.1 r1.2.2 9 _ h) (fun i => bif Nat.beq i 100000 then 100000 else i) (LeL.eq rfl) ⟨⟨_, rfl, LeO.refl _⟩, trivial⟩ (fun _ => rfl) (fun r2 => ?_)
  refine RS.go ?_
  refine RT.br rfl (fun c16 => ?_) (fun c16 => ?_)
  · refine RT.goto rfl ?_
    refine RS.slot 15 (sq eS [(⟨#[47, 112]⟩ : ByteArray), (⟨#[47, 109]⟩ : ByteArray), (⟨#[47, 109, 109]⟩ : ByteArray), (⟨#[47, 97, 109]⟩ : ByteArray), (⟨#[47, 52]⟩ : ByteArray), (⟨#[47, 48]⟩ : ByteArray)]) (Le.lit (E := eS) (l := [(⟨#[47, 112]⟩ : ByteArray), (⟨#[47, 109]⟩ : ByteArray), (⟨#[47, 109, 109]⟩ : ByteArray), (⟨#[47, 97, 109]⟩ : ByteArray), (⟨#[47, 52]⟩ : ByteArray), (⟨#[47, 48]⟩ : ByteArray)]) (cells_of rfl)) ?_
    refine RS.go ?_
    refine RT.call rfl (fun _ h => pilemake_Stream_Some.ok k r2.2.1 r2.2.2 [(⟨#[47, 112]⟩ : ByteArray), (⟨#[47, 109]⟩ : ByteArray), (⟨#[47, 109, 109]⟩ : ByteArray), (⟨#[47, 97, 109]⟩ : ByteArray), (⟨#[47, 52]⟩ : ByteArray), (⟨#[47, 48]⟩ : ByteArray)] _ h) (fun i => bif Nat.beq i 100000 then 100000 else i) (LeL.eq rfl) ⟨⟨_, rfl, LeO.refl _⟩, trivial⟩ (fun _ => rfl) (fun r3 => ?_)
    refine RS.go ?_
    refine RT.br rfl (fun c4 => ?_) (fun c4 => RT.none)
    refine RT.goto rfl ?_
    refine RS.weak [(0, .ref 100000 0 0 0 2), (4, .str (r1.1 ++ r3.1))] [(100000, .box [sq eI r3.2.1, .int .i64 r3.2.2])] ⟨Le.eq (by first | rfl | simp), Le.eq (by first | rfl | simp), trivial⟩ ⟨⟨_, rfl, LeO.refl _⟩, trivial⟩ rfl (dom_of rfl) ?_
    exact (pilemake_Stream_CallOf.loops p0_0 p0_1 k).2 (r1.1 ++ r3.1) r3.2.1 r3.2.2 
  · refine RT.br rfl (fun c15 => ?_) (fun c15 => ?_)
    · refine RT.goto rfl ?_
      refine RS.slot 21 (sq eS [(⟨#[111, 104, 48]⟩ : ByteArray), (⟨#[103]⟩ : ByteArray), (⟨#[51, 97]⟩ : ByteArray), (⟨#[100, 108]⟩ : ByteArray)]) (Le.lit (E := eS) (l := [(⟨#[111, 104, 48]⟩ : ByteArray), (⟨#[103]⟩ : ByteArray), (⟨#[51, 97]⟩ : ByteArray), (⟨#[100, 108]⟩ : ByteArray)]) (cells_of rfl)) ?_
      refine RS.go ?_
      refine RT.call rfl (fun _ h => pilemake_Stream_Some.ok k r2.2.1 r2.2.2 [(⟨#[111, 104, 48]⟩ : ByteArray), (⟨#[103]⟩ : ByteArray), (⟨#[51, 97]⟩ : ByteArray), (⟨#[100, 108]⟩ : ByteArray)] _ h) (fun i => bif Nat.beq i 100000 then 100000 else i) (LeL.eq rfl) ⟨⟨_, rfl, LeO.refl _⟩, trivial⟩ (fun _ => rfl) (fun r8 => ?_)
      refine RS.go ?_
      refine RT.br rfl (fun c9 => ?_) (fun c9 => RT.none)
      refine RT.br rfl (fun c10 => ?_) (fun c10 => RT.none)
      refine RT.goto rfl ?_
      refine RS.weak [(0, .ref 100000 0 0 0 2), (4, .str ((r8.1 ++ (⟨#[47]⟩ : ByteArray)) ++ r1.1))] [(100000, .box [sq eI r8.2.1, .int .i64 r8.2.2])] ⟨Le.eq (by first | rfl | simp), Le.eq (by first | rfl | simp), trivial⟩ ⟨⟨_, rfl, LeO.refl _⟩, trivial⟩ rfl (dom_of rfl) ?_
      exact (pilemake_Stream_CallOf.loops p0_0 p0_1 k).2 ((r8.1 ++ (⟨#[47]⟩ : ByteArray)) ++ r1.1) r8.2.1 r8.2.2 
    · refine RT.br rfl (fun c14 => ?_) (fun c14 => ?_)
      · refine RT.br rfl (fun c11 => ?_) (fun c11 => RT.none)
        refine RT.goto rfl ?_
        refine RS.slot 31 (sq eS [(⟨#[111, 104, 48]⟩ : ByteArray), (⟨#[103]⟩ : ByteArray), (⟨#[119, 50, 98]⟩ : ByteArray), (⟨#[107]⟩ : ByteArray)]) (Le.lit (E := eS) (l := [(⟨#[111, 104, 48]⟩ : ByteArray), (⟨#[103]⟩ : ByteArray), (⟨#[119, 50, 98]⟩ : ByteArray), (⟨#[107]⟩ : ByteArray)]) (cells_of rfl)) ?_
        refine RS.go ?_
        refine RT.call rfl (fun _ h => pilemake_Stream_Some.ok k r2.2.1 r2.2.2 [(⟨#[111, 104, 48]⟩ : ByteArray), (⟨#[103]⟩ : ByteArray), (⟨#[119, 50, 98]⟩ : ByteArray), (⟨#[107]⟩ : ByteArray)] _ h) (fun i => bif Nat.beq i 100000 then 100000 else i) (LeL.eq rfl) ⟨⟨_, rfl, LeO.refl _⟩, trivial⟩ (fun _ => rfl) (fun r12 => ?_)
        refine RS.go ?_
        refine RT.br rfl (fun c13 => ?_) (fun c13 => RT.none)
        refine RT.goto rfl ?_
        refine RS.weak [(0, .ref 100000 0 0 0 2), (4, .str ((r1.1 ++ (⟨#[47]⟩ : ByteArray)) ++ r12.1))] [(100000, .box [sq eI r12.2.1, .int .i64 r12.2.2])] ⟨Le.eq (by first | rfl | simp), Le.eq (by first | rfl | simp), trivial⟩ ⟨⟨_, rfl, LeO.refl _⟩, trivial⟩ rfl (dom_of rfl) ?_
        exact (pilemake_Stream_CallOf.loops p0_0 p0_1 k).2 ((r1.1 ++ (⟨#[47]⟩ : ByteArray)) ++ r12.1) r12.2.1 r12.2.2 
      · refine RT.goto rfl ?_
        refine RS.weak [(0, .ref 100000 0 0 0 2), (4, .str r1.1)] [(100000, .box [sq eI r2.2.1, .int .i64 r2.2.2])] ⟨Le.eq (by first | rfl | simp), Le.eq (by first | rfl | simp), trivial⟩ ⟨⟨_, rfl, LeO.refl _⟩, trivial⟩ rfl (dom_of rfl) ?_
        exact (pilemake_Stream_CallOf.loops p0_0 p0_1 k).2 r1.1 r2.2.1 r2.2.2 
def strings_Cut.f (a0 : ByteArray) (a1 : ByteArray) : Option (ByteArray × ByteArray × Bool) := if a0.size < 4294967281 then some ((⟨(Lib.cut a0.data.toList a1.data.toList).1.toArray⟩, ⟨(Lib.cut a0.data.toList a1.data.toList).2.1.toArray⟩, (Lib.cut a0.data.toList a1.data.toList).2.2) : ByteArray × ByteArray × Bool) else none
theorem strings_Cut.ok (a0 : ByteArray) (a1 : ByteArray) (r : ByteArray × ByteArray × Bool) (h : strings_Cut.f a0 a1 = some r) : Ct Tryz.prog B 124 [.str a0, .str a1] (ofL []) (.tup [.str r.1, .str r.2.1, .bool r.2.2]) (ofL []) := by
  unfold strings_Cut.f at h
  split at h
  case isFalse => cases h
  case isTrue c =>
  cases h
  refine Ct.lib Tryz.call124 rfl rfl fun g w hb => (((hbML hb).elim fun m hm => Tryz.strings_Cut a0 a1 m w c hm)).mono fun e w' ⟨he, hw⟩ => ⟨he, (by obtain ⟨n, rfl⟩ := hw; exact ⟨rfl, rfl, rfl, Nat.le_refl _, fun _ _ => rfl⟩)⟩

def strings_IndexRune.f (a0 : ByteArray) (a1 : Int) : Option (Int) := if 0 ≤ a1 ∧ a1 < 128 then some (Lib.indexByte a0.data.toList a1.toNat.toUInt8) else none
theorem strings_IndexRune.ok (a0 : ByteArray) (a1 : Int) (r : Int) (h : strings_IndexRune.f a0 a1 = some r) : Ct Tryz.prog B 141 [.str a0, .int .i32 a1] (ofL []) (.int .i64 r) (ofL []) := by
  unfold strings_IndexRune.f at h
  split at h
  case isFalse => cases h
  case isTrue c =>
  cases h
  refine Ct.lib Tryz.call141 rfl rfl fun g w hb => (Tryz.strings_IndexRune_ascii a0 a1 w c.1 c.2).mono fun e w' ⟨he, hw⟩ => ⟨he, hw ▸ Below.refl _ _⟩

/-! ### strings_shouldUseASCIISet: function 239 -/
def strings_shouldUseASCIISet.f (a0 : Int) : Option (Bool) := Option.some (decide (a0 > 8))
theorem strings_shouldUseASCIISet.ok (a0 : Int) (r : Bool) (h : strings_shouldUseASCIISet.f a0 = some r) : Ct Tryz.prog B 239 [.int .i64 a0] (ofL []) (.bool r) (ofL []) := by
  refine Ct.of (Y := (fam Tryz.f239 [] [] [] (fun r : Bool => .bool r) (fun r => []))) Tryz.func239 rfl Tryz.call239 rfl rfl ?_ r h
  unfold strings_shouldUseASCIISet.f
  refine RS.go ?_
  exact RT.done rfl rfl (Le.refl _) trivial rfl (dom0 rfl)
/-! ### unicode_utf8_decodeRuneInStringSlow: function 192 -/
def unicode_utf8_decodeRuneInStringSlow.f (a0 : ByteArray) : Option (Int × Int) := (if (a0.size : Int) < 1 then Option.some (65533, 0) else Option.none)
theorem unicode_utf8_decodeRuneInStringSlow.ok (a0 : ByteArray) (r : Int × Int) (h : unicode_utf8_decodeRuneInStringSlow.f a0 = some r) : Ct Tryz.prog B 192 [.str a0] (ofL []) (.tup [.int .i32 r.1, .int .i64 r.2]) (ofL []) := by
  refine Ct.of (Y := (fam Tryz.f192 [] [] [] (fun r : Int × Int => .tup [.int .i32 r.1, .int .i64 r.2]) (fun r => []))) Tryz.func192 rfl Tryz.call192 rfl rfl ?_ r h
  unfold unicode_utf8_decodeRuneInStringSlow.f
  refine RS.go ?_
  refine RT.br rfl (fun c2 => ?_) (fun c2 => ?_)
  · exact RT.done rfl rfl (Le.tup (LeL.cons (Le.refl _) (LeL.cons (Le.refl _) (LeL.nil)))) trivial rfl (dom0 rfl)
  · exact RT.none
/-! ### unicode_utf8_DecodeRuneInString: function 147 -/
def unicode_utf8_DecodeRuneInString.f (a0 : ByteArray) : Option (Int × Int) := (if a0 = (⟨#[]⟩ : ByteArray) then ((unicode_utf8_decodeRuneInStringSlow.f a0).bind fun r5 => Option.some (r5.1, r5.2)) else (if 0 < (a0.size : Int) then (if bt a0 0 < 128 then (if 0 < (a0.size : Int) then Option.some (IntKind.i32.wrap (bt a0 0), 1) else Option.none) else ((unicode_utf8_decodeRuneInStringSlow.f a0).bind fun r3 => Option.some (r3.1, r3.2))) else Option.none))
theorem unicode_utf8_DecodeRuneInString.ok (a0 : ByteArray) (r : Int × Int) (h : unicode_utf8_DecodeRuneInString.f a0 = some r) : Ct Tryz.prog B 147 [.str a0] (ofL []) (.tup [.int .i32 r.1, .int .i64 r.2]) (ofL []) := by
  refine Ct.of (Y := (fam Tryz.f147 [] [] [] (fun r : Int × Int => .tup [.int .i32 r.1, .int .i64 r.2]) (fun r => []))) Tryz.func147 rfl Tryz.call147 rfl rfl ?_ r h
  unfold unicode_utf8_DecodeRuneInString.f
  refine RS.go ?_
  refine RT.brN rfl (fun c6 => ?_) (fun c6 => ?_)
  · refine RT.brF rfl ?_
    refine RT.brF rfl ?_
    refine RT.brF rfl ?_
    refine RT.brF rfl ?_
    refine RT.call0 rfl (fun _ h => unicode_utf8_decodeRuneInStringSlow.ok a0 _ h) (LeL.eq rfl) (fun _ => rfl) (fun r5 => ?_)
    refine RS.go ?_
    exact RT.done rfl rfl (Le.tup (LeL.cons (Le.refl _) (LeL.cons (Le.refl _) (LeL.nil)))) trivial rfl (dom0 rfl)
  · refine RT.brT rfl ?_
    refine RT.brT rfl ?_
    refine RT.br rfl (fun c1 => ?_) (fun c1 => RT.none)
    refine RT.brT rfl ?_
    refine RT.brT rfl ?_
    refine RT.br rfl (fun c4 => ?_) (fun c4 => ?_)
    · refine RT.brT rfl ?_
      refine RT.br rfl (fun c2 => ?_) (fun c2 => RT.none)
      exact RT.done rfl rfl (Le.tup (LeL.cons (Le.refl _) (LeL.cons (Le.refl _) (LeL.nil)))) trivial rfl (dom0 rfl)
    · refine RT.call0 rfl (fun _ h => unicode_utf8_decodeRuneInStringSlow.ok a0 _ h) (LeL.eq rfl) (fun _ => rfl) (fun r3 => ?_)
      refine RS.go ?_
      exact RT.done rfl rfl (Le.tup (LeL.cons (Le.refl _) (LeL.cons (Le.refl _) (LeL.nil)))) trivial rfl (dom0 rfl)
/-! ### unicode_utf8_DecodeLastRuneInString: function 173 -/
mutual
def unicode_utf8_DecodeLastRuneInString.j15 : Nat → ByteArray → Int → Option (Int × Int)
  | 0, _, _ => Option.none
  | k + 1, a0, x5j15 => (if 0 ≤ (a0.size : Int) then (if (a0.size : Int) ≤ (a0.size : Int) then (if 0 ≤ x5j15 then (if x5j15 ≤ (a0.size : Int) then ((unicode_utf8_DecodeRuneInString.f (a0.extract (x5j15).toNat ((a0.size : Int)).toNat)).bind fun r9 => (if wrap64 (x5j15 + r9.2) = (a0.size : Int) then Option.some (r9.1, r9.2) else Option.some (65533, 1))) else Option.none) else Option.none) else Option.none) else Option.none)
def unicode_utf8_DecodeLastRuneInString.l0 : Nat → ByteArray → Option (Int × Int)
  | 0, _ => Option.none
  | k + 1, a0 => (if wrap64 ((wrap64 ((a0.size : Int) - 1)) - 1) ≥ mx (wrap64 ((a0.size : Int) - 4)) 0 then Option.none else (if wrap64 ((wrap64 ((a0.size : Int) - 1)) - 1) < 0 then unicode_utf8_DecodeLastRuneInString.j15 k a0 0 else unicode_utf8_DecodeLastRuneInString.j15 k a0 (wrap64 ((wrap64 ((a0.size : Int) - 1)) - 1))))
end
def unicode_utf8_DecodeLastRuneInString.f (k : Nat) (a0 : ByteArray) : Option (Int × Int) := (if (a0.size : Int) = 0 then Option.some (65533, 0) else (if 0 ≤ wrap64 ((a0.size : Int) - 1) then (if wrap64 ((a0.size : Int) - 1) < (a0.size : Int) then (if IntKind.i32.wrap (bt a0 (wrap64 ((a0.size : Int) - 1))) < 128 then Option.some (IntKind.i32.wrap (bt a0 (wrap64 ((a0.size : Int) - 1))), 1) else unicode_utf8_DecodeLastRuneInString.l0 k a0) else Option.none) else Option.none))
theorem unicode_utf8_DecodeLastRuneInString.loops : ∀ k, (∀ (a0 : ByteArray) (x5j15 : Int), RS (fam Tryz.f173 [15] [] [] (fun r : Int × Int => .tup [.int .i32 r.1, .int .i64 r.2]) (fun r => [])) (Func.reg Tryz.f173 15) ⟨ofT [(0, .str a0), (4, .int .i64 (a0.size : Int)), (5, .int .i64 x5j15)], ofL []⟩ (unicode_utf8_DecodeLastRuneInString.j15 k a0 x5j15)) ∧ (∀ (a0 : ByteArray), RS (fam Tryz.f173 [15] [] [] (fun r : Int × Int => .tup [.int .i32 r.1, .int .i64 r.2]) (fun r => [])) (Func.head Tryz.f173 0) ⟨ofT [(0, .str a0), (4, .int .i64 (a0.size : Int)), (5, .int .i64 (wrap64 ((wrap64 ((a0.size : Int) - 1)) - 1))), (6, .int .i64 (mx (wrap64 ((a0.size : Int) - 4)) 0))], ofL []⟩ (unicode_utf8_DecodeLastRuneInString.l0 k a0))
  | 0 => ⟨by intro _ _; simp only [unicode_utf8_DecodeLastRuneInString.j15]; exact RS.none, by intro _; simp only [unicode_utf8_DecodeLastRuneInString.l0]; exact RS.none⟩
  | k + 1 => by
    have ih := unicode_utf8_DecodeLastRuneInString.loops k
    refine ⟨?_, ?_⟩
    · intro a0 x5j15
      simp only [unicode_utf8_DecodeLastRuneInString.j15]
      refine RS.region ?_
      refine RS.go ?_
      refine RT.br rfl (fun c5 => ?_) (fun c5 => RT.none)
      refine RT.br rfl (fun c6 => ?_) (fun c6 => RT.none)
      refine RT.br rfl (fun c7 => ?_) (fun c7 => RT.none)
      refine RT.br rfl (fun c8 => ?_) (fun c8 => RT.none)
      refine RT.call0 rfl (fun _ h => unicode_utf8_DecodeRuneInString.ok (a0.extract (x5j15).toNat ((a0.size : Int)).toNat) _ h) (LeL.eq rfl) (fun _ => rfl) (fun r9 => ?_)
      refine RS.go ?_
      refine RT.brN rfl (fun c10 => ?_) (fun c10 => ?_)
      · exact RT.done rfl rfl (Le.tup (LeL.cons (Le.refl _) (LeL.cons (Le.refl _) (LeL.nil)))) trivial rfl (dom0 rfl)
      · exact RT.done rfl rfl (Le.tup (LeL.cons (Le.refl _) (LeL.cons (Le.refl _) (LeL.nil)))) trivial rfl (dom0 rfl)
    · intro a0
      simp only [unicode_utf8_DecodeLastRuneInString.l0]
      refine RS.go ?_
      refine RT.br rfl (fun c12 => ?_) (fun c12 => ?_)
      · exact RT.none
      · refine RT.br rfl (fun c11 => ?_) (fun c11 => ?_)
        · refine RT.goto rfl ?_
          refine RS.weak [(0, .str a0), (4, .int .i64 (a0.size : Int)), (5, .int .i64 0)] [] ⟨Le.eq (by first | rfl | simp), Le.eq (by first | rfl | simp), Le.eq (by first | rfl | simp), trivial⟩ trivial rfl (dom0 rfl) ?_
          exact ih.1 a0 0 
        · refine RT.goto rfl ?_
          refine RS.weak [(0, .str a0), (4, .int .i64 (a0.size : Int)), (5, .int .i64 (wrap64 ((wrap64 ((a0.size : Int) - 1)) - 1)))] [] ⟨Le.eq (by first | rfl | simp), Le.eq (by first | rfl | simp), Le.eq (by first | rfl | simp), trivial⟩ trivial rfl (dom0 rfl) ?_
          exact ih.1 a0 (wrap64 ((wrap64 ((a0.size : Int) - 1)) - 1)) 
theorem unicode_utf8_DecodeLastRuneInString.ok (k : Nat) (a0 : ByteArray) (r : Int × Int) (h : unicode_utf8_DecodeLastRuneInString.f k a0 = some r) : Ct Tryz.prog B 173 [.str a0] (ofL []) (.tup [.int .i32 r.1, .int .i64 r.2]) (ofL []) := by
  refine Ct.of (Y := (fam Tryz.f173 [15] [] [] (fun r : Int × Int => .tup [.int .i32 r.1, .int .i64 r.2]) (fun r => []))) Tryz.func173 rfl Tryz.call173 rfl rfl ?_ r h
  unfold unicode_utf8_DecodeLastRuneInString.f
  refine RS.go ?_
  refine RT.br rfl (fun c14 => ?_) (fun c14 => ?_)
  · exact RT.done rfl rfl (Le.tup (LeL.cons (Le.refl _) (LeL.cons (Le.refl _) (LeL.nil)))) trivial rfl (dom0 rfl)
  · refine RT.br rfl (fun c1 => ?_) (fun c1 => RT.none)
    refine RT.br rfl (fun c2 => ?_) (fun c2 => RT.none)
    refine RT.br rfl (fun c13 => ?_) (fun c13 => ?_)
    · exact RT.done rfl rfl (Le.tup (LeL.cons (Le.refl _) (LeL.cons (Le.refl _) (LeL.nil)))) trivial rfl (dom0 rfl)
    · refine RT.goto rfl ?_
      refine RS.weak [(0, .str a0), (4, .int .i64 (a0.size : Int)), (5, .int .i64 (wrap64 ((wrap64 ((a0.size : Int) - 1)) - 1))), (6, .int .i64 (mx (wrap64 ((a0.size : Int) - 4)) 0))] [] ⟨Le.eq (by first | rfl | simp), Le.eq (by first | rfl | simp), Le.eq (by first | rfl | simp), Le.eq (by first | rfl | simp), trivial⟩ trivial rfl (dom0 rfl) ?_
      exact (unicode_utf8_DecodeLastRuneInString.loops k).2 a0 
/-! ### strings_LastIndexAny_s: function 209 -/
mutual
def strings_LastIndexAny_s.j7 : Nat → ByteArray → Int → Option (Int)
  | 0, _, _ => Option.none
  | k + 1, a1, x5j7 => ((strings_IndexRune.f a1 x5j7).bind fun r2 => (if r2 ≥ 0 then Option.some 0 else Option.some (-1)))
def strings_LastIndexAny_s.l1 : Nat → ByteArray → Int → Int → Option (Int)
  | 0, _, _, _ => Option.none
  | k + 1, a0, x9j23, x10b => (if x10b > 0 then (if 0 ≤ x10b then (if x10b ≤ (a0.size : Int) then ((unicode_utf8_DecodeLastRuneInString.f k (a0.extract 0 (x10b).toNat)).bind fun r9 => (if x9j23 = r9.1 then Option.some (wrap64 (x10b - r9.2)) else strings_LastIndexAny_s.l1 k a0 x9j23 (wrap64 (x10b - r9.2)))) else Option.none) else Option.none) else Option.some (-1))
def strings_LastIndexAny_s.j23 : Nat → ByteArray → Int → Option (Int)
  | 0, _, _ => Option.none
  | k + 1, a0, x9j23 => strings_LastIndexAny_s.l1 k a0 x9j23 (a0.size : Int)
def strings_LastIndexAny_s.l2 : Nat → ByteArray → ByteArray → Int → Option (Int)
  | 0, _, _, _ => Option.none
  | k + 1, a0, a1, x13c => (if x13c > 0 then (if 0 ≤ x13c then (if x13c ≤ (a0.size : Int) then ((unicode_utf8_DecodeLastRuneInString.f k (a0.extract 0 (x13c).toNat)).bind fun r15 => ((strings_IndexRune.f a1 r15.1).bind fun r16 => (if r16 ≥ 0 then Option.some (wrap64 (x13c - r15.2)) else strings_LastIndexAny_s.l2 k a0 a1 (wrap64 (x13c - r15.2))))) else Option.none) else Option.none) else Option.some (-1))
def strings_LastIndexAny_s.j19 : Nat → ByteArray → ByteArray → Option (Int)
  | 0, _, _ => Option.none
  | k + 1, a0, a1 => (if (a1.size : Int) = 1 then (if 0 < (a1.size : Int) then (if IntKind.i32.wrap (bt a1 0) ≥ 128 then strings_LastIndexAny_s.j23 k a0 65533 else strings_LastIndexAny_s.j23 k a0 (IntKind.i32.wrap (bt a1 0))) else Option.none) else strings_LastIndexAny_s.l2 k a0 a1 (a0.size : Int))
end
def strings_LastIndexAny_s.f (k : Nat) (a0 : ByteArray) (a1 : ByteArray) : Option (Int) := (if a1 = (⟨#[]⟩ : ByteArray) then Option.some (-1) else (if (a0.size : Int) = 1 then (if 0 < (a0.size : Int) then (if IntKind.i32.wrap (bt a0 0) ≥ 128 then strings_LastIndexAny_s.j7 k a1 65533 else strings_LastIndexAny_s.j7 k a1 (IntKind.i32.wrap (bt a0 0))) else Option.none) else ((strings_shouldUseASCIISet.f (a0.size : Int)).bind fun r5 => (if r5 = true then Option.none else strings_LastIndexAny_s.j19 k a0 a1))))
theorem strings_LastIndexAny_s.loops : ∀ k, (∀ (a1 : ByteArray) (x5j7 : Int), RS (fam Tryz.f209 [7, 19, 23] [] [] (fun r : Int => .int .i64 r) (fun r => [])) (Func.reg Tryz.f209 7) ⟨ofT [(1, .str a1), (5, .int .i32 x5j7)], ofL []⟩ (strings_LastIndexAny_s.j7 k a1 x5j7)) ∧ (∀ (a0 : ByteArray) (x9j23 : Int) (x10b : Int), RS (fam Tryz.f209 [7, 19, 23] [] [] (fun r : Int => .int .i64 r) (fun r => [])) (Func.head Tryz.f209 1) ⟨ofT [(0, .str a0), (9, .int .i32 x9j23), (10, .int .i64 x10b)], ofL []⟩ (strings_LastIndexAny_s.l1 k a0 x9j23 x10b)) ∧ (∀ (a0 : ByteArray) (x9j23 : Int), RS (fam Tryz.f209 [7, 19, 23] [] [] (fun r : Int => .int .i64 r) (fun r => [])) (Func.reg Tryz.f209 23) ⟨ofT [(0, .str a0), (9, .int .i32 x9j23)], ofL []⟩ (strings_LastIndexAny_s.j23 k a0 x9j23)) ∧ (∀ (a0 : ByteArray) (a1 : ByteArray) (x13c : Int), RS (fam Tryz.f209 [7, 19, 23] [] [] (fun r : Int => .int .i64 r) (fun r => [])) (Func.head Tryz.f209 2) ⟨ofT [(0, .str a0), (1, .str a1), (13, .int .i64 x13c)], ofL []⟩ (strings_LastIndexAny_s.l2 k a0 a1 x13c)) ∧ (∀ (a0 : ByteArray) (a1 : ByteArray), RS (fam Tryz.f209 [7, 19, 23] [] [] (fun r : Int => .int .i64 r) (fun r => [])) (Func.reg Tryz.f209 19) ⟨ofT [(0, .str a0), (1, .str a1)], ofL []⟩ (strings_LastIndexAny_s.j19 k a0 a1))
  | 0 => ⟨by intro _ _; simp only [strings_LastIndexAny_s.j7]; exact RS.none, by intro _ _ _; simp only [strings_LastIndexAny_s.l1]; exact RS.none, by intro _ _; simp only [strings_LastIndexAny_s.j23]; exact RS.none, by intro _ _ _; simp only [strings_LastIndexAny_s.l2]; exact RS.none, by intro _ _; simp only [strings_LastIndexAny_s.j19]; exact RS.none⟩
  | k + 1 => by
    have ih := strings_LastIndexAny_s.loops k
    refine ⟨?_, ?_, ?_, ?_, ?_⟩
    · intro a1 x5j7
      simp only [strings_LastIndexAny_s.j7]
      refine RS.region ?_
      refine RS.go ?_
      refine RT.call0 rfl (fun _ h => strings_IndexRune.ok a1 x5j7 _ h) (LeL.eq rfl) (fun _ => rfl) (fun r2 => ?_)
      refine RS.go ?_
      refine RT.br rfl (fun c3 => ?_) (fun c3 => ?_)
      · exact RT.done rfl rfl (Le.refl _) trivial rfl (dom0 rfl)
      · exact RT.done rfl rfl (Le.refl _) trivial rfl (dom0 rfl)
    · intro a0 x9j23 x10b
      simp only [strings_LastIndexAny_s.l1]
      refine RS.go ?_
      refine RT.br rfl (fun c11 => ?_) (fun c11 => ?_)
      · refine RT.br rfl (fun c7 => ?_) (fun c7 => RT.none)
        refine RT.br rfl (fun c8 => ?_) (fun c8 => RT.none)
        refine RT.call0 rfl (fun _ h => unicode_utf8_DecodeLastRuneInString.ok k (a0.extract 0 (x10b).toNat) _ h) (LeL.eq rfl) (fun _ => rfl) (fun r9 => ?_)
        refine RS.go ?_
        refine RT.br rfl (fun c10 => ?_) (fun c10 => ?_)
        · exact RT.done rfl rfl (Le.refl _) trivial rfl (dom0 rfl)
        · refine RT.goto rfl ?_
          refine RS.weak [(0, .str a0), (9, .int .i32 x9j23), (10, .int .i64 (wrap64 (x10b - r9.2)))] [] ⟨Le.eq (by first | rfl | simp), Le.eq (by first | rfl | simp), Le.eq (by first | rfl | simp), trivial⟩ trivial rfl (dom0 rfl) ?_
          exact ih.2.1 a0 x9j23 (wrap64 (x10b - r9.2)) 
      · exact RT.done rfl rfl (Le.refl _) trivial rfl (dom0 rfl)
    · intro a0 x9j23
      simp only [strings_LastIndexAny_s.j23]
      refine RS.region ?_
      refine RS.go ?_
      refine RT.goto rfl ?_
      refine RS.weak [(0, .str a0), (9, .int .i32 x9j23), (10, .int .i64 (a0.size : Int))] [] ⟨Le.eq (by first | rfl | simp), Le.eq (by first | rfl | simp), Le.eq (by first | rfl | simp), trivial⟩ trivial rfl (dom0 rfl) ?_
      exact ih.2.1 a0 x9j23 (a0.size : Int) 
    · intro a0 a1 x13c
      simp only [strings_LastIndexAny_s.l2]
      refine RS.go ?_
      refine RT.br rfl (fun c18 => ?_) (fun c18 => ?_)
      · refine RT.br rfl (fun c13 => ?_) (fun c13 => RT.none)
        refine RT.br rfl (fun c14 => ?_) (fun c14 => RT.none)
        refine RT.call0 rfl (fun _ h => unicode_utf8_DecodeLastRuneInString.ok k (a0.extract 0 (x13c).toNat) _ h) (LeL.eq rfl) (fun _ => rfl) (fun r15 => ?_)
        refine RS.go ?_
        refine RT.call0 rfl (fun _ h => strings_IndexRune.ok a1 r15.1 _ h) (LeL.eq rfl) (fun _ => rfl) (fun r16 => ?_)
        refine RS.go ?_
        refine RT.br rfl (fun c17 => ?_) (fun c17 => ?_)
        · exact RT.done rfl rfl (Le.refl _) trivial rfl (dom0 rfl)
        · refine RT.goto rfl ?_
          refine RS.weak [(0, .str a0), (1, .str a1), (13, .int .i64 (wrap64 (x13c - r15.2)))] [] ⟨Le.eq (by first | rfl | simp), Le.eq (by first | rfl | simp), Le.eq (by first | rfl | simp), trivial⟩ trivial rfl (dom0 rfl) ?_
          exact ih.2.2.2.1 a0 a1 (wrap64 (x13c - r15.2)) 
      · exact RT.done rfl rfl (Le.refl _) trivial rfl (dom0 rfl)
    · intro a0 a1
      simp only [strings_LastIndexAny_s.j19]
      refine RS.region ?_
      refine RS.go ?_
      refine RT.br rfl (fun c19 => ?_) (fun c19 => ?_)
      · refine RT.brT rfl ?_
        refine RT.br rfl (fun c6 => ?_) (fun c6 => RT.none)
        refine RT.br rfl (fun c12 => ?_) (fun c12 => ?_)
        · refine RT.goto rfl ?_
          refine RS.weak [(0, .str a0), (9, .int .i32 65533)] [] ⟨Le.eq (by first | rfl | simp), Le.eq (by first | rfl | simp), trivial⟩ trivial rfl (dom0 rfl) ?_
          exact ih.2.2.1 a0 65533 
        · refine RT.goto rfl ?_
          refine RS.weak [(0, .str a0), (9, .int .i32 (IntKind.i32.wrap (bt a1 0)))] [] ⟨Le.eq (by first | rfl | simp), Le.eq (by first | rfl | simp), trivial⟩ trivial rfl (dom0 rfl) ?_
          exact ih.2.2.1 a0 (IntKind.i32.wrap (bt a1 0)) 
      · refine RT.goto rfl ?_
        refine RS.weak [(0, .str a0), (1, .str a1), (13, .int .i64 (a0.size : Int))] [] ⟨Le.eq (by first | rfl | simp), Le.eq (by first | rfl | simp), Le.eq (by first | rfl | simp), trivial⟩ trivial rfl (dom0 rfl) ?_
        exact ih.2.2.2.1 a0 a1 (a0.size : Int) 
theorem strings_LastIndexAny_s.ok (k : Nat) (a0 : ByteArray) (a1 : ByteArray) (r : Int) (h : strings_LastIndexAny_s.f k a0 a1 = some r) : Ct Tryz.prog B 209 [.str a0, .str a1] (ofL []) (.int .i64 r) (ofL []) := by
  refine Ct.of (Y := (fam Tryz.f209 [7, 19, 23] [] [] (fun r : Int => .int .i64 r) (fun r => []))) Tryz.func209 rfl Tryz.call209 rfl rfl ?_ r h
  unfold strings_LastIndexAny_s.f
  refine RS.go ?_
  refine RT.br rfl (fun c22 => ?_) (fun c22 => ?_)
  · exact RT.done rfl rfl (Le.refl _) trivial rfl (dom0 rfl)
  · refine RT.br rfl (fun c21 => ?_) (fun c21 => ?_)
    · refine RT.brT rfl ?_
      refine RT.br rfl (fun c1 => ?_) (fun c1 => RT.none)
      refine RT.br rfl (fun c4 => ?_) (fun c4 => ?_)
      · refine RT.goto rfl ?_
        refine RS.weak [(1, .str a1), (5, .int .i32 65533)] [] ⟨Le.eq (by first | rfl | simp), Le.eq (by first | rfl | simp), trivial⟩ trivial rfl (dom0 rfl) ?_
        exact (strings_LastIndexAny_s.loops k).1 a1 65533 
      · refine RT.goto rfl ?_
        refine RS.weak [(1, .str a1), (5, .int .i32 (IntKind.i32.wrap (bt a0 0)))] [] ⟨Le.eq (by first | rfl | simp), Le.eq (by first | rfl | simp), trivial⟩ trivial rfl (dom0 rfl) ?_
        exact (strings_LastIndexAny_s.loops k).1 a1 (IntKind.i32.wrap (bt a0 0)) 
    · refine RT.call0 rfl (fun _ h => strings_shouldUseASCIISet.ok (a0.size : Int) _ h) (LeL.eq rfl) (fun _ => rfl) (fun r5 => ?_)
      refine RS.go ?_
      refine RT.brB rfl (fun c20 => ?_) (fun c20 => ?_)
      · exact RT.none
      · refine RT.goto rfl ?_
        refine RS.weak [(0, .str a0), (1, .str a1)] [] ⟨Le.eq (by first | rfl | simp), Le.eq (by first | rfl | simp), trivial⟩ trivial rfl (dom0 rfl) ?_
        exact (strings_LastIndexAny_s.loops k).2.2.2.2 a0 a1 
def sMake.f (a0 : ByteArray) : Option ByteArray := if a0.size < 4294967281 ∧ asciiT a0 = true then some a0 else none
theorem sMake.ok (a0 r : ByteArray) (h : sMake.f a0 = some r) : Ct Tryz.prog B 135 [.str a0] (ofL []) (.tup [.agg (setA r), .bool true]) (ofL []) := by
  unfold sMake.f at h
  split at h
  case isFalse => cases h
  case isTrue c =>
  cases h
  refine Ct.libR (u := .tuple #[.agg (Lib.setCells a0.data.toList), .bool true]) Tryz.call135 rfl (fun g sz w => ?_) fun g w hb => (Tryz.strings_makeASCIISet (zero_of_info (n := 256) (by kernel_rfl)).1 a0 w c.1 (asciiT_at c.2)).mono fun e w' ⟨he, hw⟩ => ⟨he, ?_⟩
  · refine .tup _ _ rfl fun i hi => ?_
    rcases (by simp at hi; omega : i = 0 ∨ i = 1) with rfl | rfl
    · refine .agg _ _ ?_ fun j hj => ?_
      · rw [Lib.setCells_size, setA_len]
      · rw [setA_len] at hj
        rw [Lib.setCells_eq]
        simp only [setA, List.getD, List.getElem?_map, List.getElem?_range hj, Option.map_some, Option.getD_some]
        have : (Array.map (fun j => Value.bool (a0.data.toList.contains (UInt8.ofNat j))) (Array.range 256)).getD j undef = .bool (a0.data.toList.contains (UInt8.ofNat j)) := by simp [Array.getD, hj]
        rw [this]
        exact R.bool _
    · exact R.bool _
  · rw [hw]
    exact (Below.refl _ _).alloc (Nat.le_refl _) _

/-- the set lent: is a byte in it? -/
def sHas.f (a0 : ByteArray) (a1 : Int) : Option Bool := if 0 ≤ a1 ∧ a1 < 256 then some (a0.data.toList.contains (UInt8.ofNat a1.toNat)) else none
theorem sHas.ok (a0 : ByteArray) (a1 : Int) (r : Bool) (h : sHas.f a0 a1 = some r) : Ct Tryz.prog B 172 [.ref 0 0 0 0 256, .int .u8 a1] (ofL [(0, .box (setA a0))]) (.bool r) (ofL [(0, .box (setA a0))]) := by
  unfold sHas.f at h
  split at h
  case isFalse => cases h
  case isTrue c =>
  cases h
  intro g w vs hs hr hO hB
  unfold Ent
  rw [show ∀ (vs : Array Value) (w : World), (callFunc 172 vs).run Tryz.prog w = .ok (.enter 172 vs) w from Tryz.call172]
  have h0 := hr 0 (by simp)
  have h1 := hr 1 (by simp)
  have hob := hO.ob 0 _ (show ofL [(0, .box (setA a0))] 0 = some (.box (setA a0)) from rfl)
  obtain ⟨b, κ, hβ, hcell⟩ := box_cell hob
  have hsz : szf (ofL [(0, .box (setA a0))]) 0 = 256 := setA_len a0
  obtain ⟨b', κ', hβ', hv⟩ := ref_inv h0 hsz.symm
  rw [hβ] at hβ'
  cases hβ'
  have hv1 := R.int_inv h1
  have e : vs = #[.pointer (some ⟨b, 0, none⟩), .int .u8 ((UInt8.ofNat a1.toNat).toNat : Int)] := by
    have ha : ((UInt8.ofNat a1.toNat).toNat : Int) = a1 := by rw [UInt8.toNat_ofNat']; omega
    rw [ha]
    apply Array.ext
    · simpa using hs
    · intro i hi hi2
      have hi3 : i < 2 := by simpa using hi2
      rcases (by omega : i = 0 ∨ i = 1) with rfl | rfl
      · have : vs.getD 0 undef = vs[0] := by simp [Array.getD, hi]
        rw [this] at hv
        simpa using hv
      · have : vs.getD 1 undef = vs[1] := by simp [Array.getD, hi]
        rw [this] at hv1
        simpa using hv1
  rw [e]
  refine (Tryz.asciiSet_contains b (UInt8.ofNat a1.toNat) _ w (hcell _)).mono fun e w' ⟨he, hw⟩ => ?_
  subst hw
  exact ⟨_, he, g, R.bool _, hO, Fr.refl _ _, Kp.refl _ _⟩
def sLast.l9 : Nat → ByteArray → ByteArray → Int → Option Int
  | 0, _, _, _ => Option.none
  | k + 1, a0, a1, x8 => (if x8 ≥ 0 then (if 0 ≤ x8 then (if x8 < (a0.size : Int) then ((sHas.f a1 (bt a0 x8)).bind fun r9 => (if r9 = true then Option.some x8 else sLast.l9 k a0 a1 (wrap64 (x8 - 1)))) else Option.none) else Option.none) else Option.some (-1))
theorem sLast.loops : ∀ k, (∀ (a0 : ByteArray) (a1 : ByteArray) (x8 : Int), RS (fam Tryz.f209 [1000007] [] [] (fun r : Int => .int .i64 r) (fun r => [])) (Func.head Tryz.f209 0) ⟨ofT [(0, .str a0), (6, .ref 6 0 0 0 256), (8, .int .i64 x8)], ofL [(6, .box (setA a1))]⟩ (sLast.l9 k a0 a1 x8))
  | 0 => by intro _ _ _; simp only [sLast.l9]; exact RS.none
  | k + 1 => by
    have ih := sLast.loops k
    intro a0 a1 x8
    simp only [sLast.l9]
    refine RS.go ?_
    refine RT.br rfl (fun c1 => ?_) (fun c1 => ?_)
    · refine RT.br rfl (fun c2 => ?_) (fun c2 => RT.none)
      refine RT.br rfl (fun c3 => ?_) (fun c3 => RT.none)
      refine RT.call rfl (fun _ h => sHas.ok a1 (bt a0 x8) _ h) (fun i => bif Nat.beq i 0 then 6 else i) (LeL.eq rfl) ⟨⟨_, rfl, LeO.refl _⟩, trivial⟩ (fun _ => rfl) (fun r9 => ?_)
      refine RS.go ?_
      refine RT.brB rfl (fun c4 => ?_) (fun c4 => ?_)
      · exact RT.done rfl rfl (Le.refl _) trivial rfl (dom0 rfl)
      · refine RT.goto rfl ?_
        refine RS.weak [(0, .str a0), (6, .ref 6 0 0 0 256), (8, .int .i64 (wrap64 (x8 - 1)))] [(6, .box (setA a1))] ⟨Le.eq (by first | rfl | simp), Le.eq (by first | rfl | simp), Le.eq (by first | rfl | simp), trivial⟩ ⟨⟨_, rfl, LeO.refl _⟩, trivial⟩ rfl (dom0 rfl) ?_
        exact ih a0 a1 (wrap64 (x8 - 1))
    · exact RT.done rfl rfl (Le.refl _) trivial rfl (dom0 rfl)
def sLast.f (k : Nat) (a0 : ByteArray) (a1 : ByteArray) : Option Int := (if a1 = (⟨#[]⟩ : ByteArray) then Option.none else (if (a0.size : Int) = 1 then Option.none else ((strings_shouldUseASCIISet.f (a0.size : Int)).bind fun r5 => (if r5 = true then ((sMake.f a1).bind fun r6 => sLast.l9 k a0 r6 (wrap64 ((a0.size : Int) - 1))) else Option.none))))
theorem sLast.ok (k : Nat) (a0 : ByteArray) (a1 : ByteArray) (r : Int) (h : sLast.f k a0 a1 = some r) : Ct Tryz.prog B 209 [.str a0, .str a1] (ofL []) (.int .i64 r) (ofL []) := by
  refine Ct.of (Y := (fam Tryz.f209 [1000007] [] [] (fun r : Int => .int .i64 r) (fun r => []))) Tryz.func209 rfl Tryz.call209 rfl rfl ?_ r h
  unfold sLast.f
  refine RS.go ?_
  refine RT.br rfl (fun c22 => ?_) (fun c22 => ?_)
  · exact RT.none
  · refine RT.br rfl (fun c21 => ?_) (fun c21 => ?_)
    · exact RT.none
    · refine RT.call0 rfl (fun _ h => strings_shouldUseASCIISet.ok (a0.size : Int) _ h) (LeL.eq rfl) (fun _ => rfl) (fun r5 => ?_)
      refine RS.go ?_
      refine RT.brB rfl (fun c20 => ?_) (fun c20 => ?_)
      · refine RT.call0 rfl (fun _ h => sMake.ok a1 _ h) (LeL.eq rfl) (fun _ => rfl) (fun r6 => ?_)
        refine RS.go ?_
        refine RT.goto rfl ?_
        refine RS.obj 6 (.box (setA r6)) ⟨_, rfl, LeO.putA rfl rfl⟩ ?_
        refine RS.go ?_
        refine RT.brT rfl ?_
        refine RT.goto rfl ?_
        refine RS.weak [(0, .str a0), (6, .ref 6 0 0 0 256), (8, .int .i64 (wrap64 ((a0.size : Int) - 1)))] [(6, .box (setA r6))] ⟨Le.eq (by first | rfl | simp), Le.eq (by first | rfl | simp), Le.eq (by first | rfl | simp), trivial⟩ ⟨⟨_, rfl, LeO.refl _⟩, trivial⟩ rfl (dom0 rfl) ?_
        exact sLast.loops k a0 r6 (wrap64 ((a0.size : Int) - 1))
      · exact RT.none
def strings_LastIndexAny.f (k : Nat) (a0 : ByteArray) (a1 : ByteArray) : Option Int := if 8 < a0.size then sLast.f k a0 a1 else strings_LastIndexAny_s.f k a0 a1
theorem strings_LastIndexAny.ok (k : Nat) (a0 : ByteArray) (a1 : ByteArray) (r : Int) (h : strings_LastIndexAny.f k a0 a1 = some r) : Ct Tryz.prog B 209 [.str a0, .str a1] (ofL []) (.int .i64 r) (ofL []) := by
  unfold strings_LastIndexAny.f at h
  split at h
  · exact sLast.ok k a0 a1 r h
  · exact strings_LastIndexAny_s.ok k a0 a1 r h

/-! ### pileref1_in: function 99 -/
def pileref1_in.f (a0 : Int) (a1 : Int) (a2 : Int) : Option (Bool) := (if a1 ≤ a0 then Option.some (decide (a0 ≤ a2)) else Option.some false)
theorem pileref1_in.ok (a0 : Int) (a1 : Int) (a2 : Int) (r : Bool) (h : pileref1_in.f a0 a1 a2 = some r) : Ct Tryz.prog B 99 [.int .i64 a0, .int .i64 a1, .int .i64 a2] (ofL []) (.bool r) (ofL []) := by
  refine Ct.of (Y := (fam Tryz.f99 [] [] [] (fun r : Bool => .bool r) (fun r => []))) Tryz.func99 rfl Tryz.call99 rfl rfl ?_ r h
  unfold pileref1_in.f
  refine RS.go ?_
  refine RT.br rfl (fun c1 => ?_) (fun c1 => ?_)
  · refine RT.brT rfl ?_
    refine RT.brT rfl ?_
    refine RT.brT rfl ?_
    exact RT.done rfl rfl (Le.refl _) trivial rfl (dom0 rfl)
  · refine RT.brF rfl ?_
    refine RT.brF rfl ?_
    refine RT.brF rfl ?_
    exact RT.done rfl rfl (Le.refl _) trivial rfl (dom0 rfl)
def strings_Trim.f (a0 : ByteArray) (a1 : ByteArray) : Option (ByteArray) := if a0.size ≤ 9223372036854775807 ∧ a1.size < 4294967281 ∧ asciiT a1 = true then some (⟨(Lib.trimS a0.data.toList a1.data.toList).toArray⟩ : ByteArray) else none
theorem strings_Trim.ok (a0 : ByteArray) (a1 : ByteArray) (r : ByteArray) (h : strings_Trim.f a0 a1 = some r) : Ct Tryz.prog B 81 [.str a0, .str a1] (ofL []) (.str r) (ofL []) := by
  unfold strings_Trim.f at h
  split at h
  case isFalse => cases h
  case isTrue c =>
  cases h
  refine Ct.lib Tryz.call81 rfl rfl fun g w hb => (Go.Proofs.Any.strings_Trim_laid Tryz.lays160 (by kernel_rfl) a0 a1 w c.1 c.2.1 (asciiT_at c.2.2)).mono fun e w' ⟨he, hw⟩ => ⟨he, hw⟩

def strings_IndexAny.f (a0 : ByteArray) (a1 : ByteArray) : Option (Int) := if (a0.size < 4294967281 ∧ a1.size < 4294967281) ∧ asciiT a0 = true ∧ asciiT a1 = true then some (Lib.indexAny a0.data.toList a1.data.toList) else none
theorem strings_IndexAny.ok (a0 : ByteArray) (a1 : ByteArray) (r : Int) (h : strings_IndexAny.f a0 a1 = some r) : Ct Tryz.prog B 240 [.str a0, .str a1] (ofL []) (.int .i64 r) (ofL []) := by
  unfold strings_IndexAny.f at h
  split at h
  case isFalse => cases h
  case isTrue c =>
  cases h
  refine Ct.lib Tryz.call240 rfl rfl fun g w hb => (Tryz.strings_IndexAny_laid a0 a1 w c.1.1 c.1.2 (asciiT_at c.2.1) (asciiT_at c.2.2)).mono fun e w' ⟨he, hw⟩ => ⟨he, hw⟩

/-! ### strings_ContainsAny: function 211 -/
def strings_ContainsAny.f (a0 : ByteArray) (a1 : ByteArray) : Option (Bool) := ((strings_IndexAny.f a0 a1).bind fun r1 => Option.some (decide (r1 ≥ 0)))
theorem strings_ContainsAny.ok (a0 : ByteArray) (a1 : ByteArray) (r : Bool) (h : strings_ContainsAny.f a0 a1 = some r) : Ct Tryz.prog B 211 [.str a0, .str a1] (ofL []) (.bool r) (ofL []) := by
  refine Ct.of (Y := (fam Tryz.f211 [] [] [] (fun r : Bool => .bool r) (fun r => []))) Tryz.func211 rfl Tryz.call211 rfl rfl ?_ r h
  unfold strings_ContainsAny.f
  refine RS.go ?_
  refine RT.call0 rfl (fun _ h => strings_IndexAny.ok a0 a1 _ h) (LeL.eq rfl) (fun _ => rfl) (fun r1 => ?_)
  refine RS.go ?_
  exact RT.done rfl rfl (Le.refl _) trivial rfl (dom0 rfl)
/-! ### pileref1_plain: function 210 -/
def pileref1_plain.f (a0 : ByteArray) (a1 : Int) (a2 : Int) : Option (Bool) := ((pileref1_in.f (a0.size : Int) a1 a2).bind fun r1 => (if r1 = true then ((strings_Trim.f a0 str_0).bind fun r2 => (if r2 = (⟨#[]⟩ : ByteArray) then ((strings_ContainsAny.f a0 str_1).bind fun r3 => Option.some r3) else Option.some false)) else Option.some false))
theorem pileref1_plain.ok (a0 : ByteArray) (a1 : Int) (a2 : Int) (r : Bool) (h : pileref1_plain.f a0 a1 a2 = some r) : Ct Tryz.prog B 210 [.str a0, .int .i64 a1, .int .i64 a2] (ofL []) (.bool r) (ofL []) := by
  refine Ct.of (Y := (fam Tryz.f210 [] [] [] (fun r : Bool => .bool r) (fun r => []))) Tryz.func210 rfl Tryz.call210 rfl rfl ?_ r h
  unfold pileref1_plain.f
  refine RS.go ?_
  refine RT.call0 rfl (fun _ h => pileref1_in.ok (a0.size : Int) a1 a2 _ h) (LeL.eq rfl) (fun _ => rfl) (fun r1 => ?_)
  refine RS.go ?_
  refine RT.brB rfl (fun c5 => ?_) (fun c5 => ?_)
  · refine RT.brT rfl ?_
    refine RT.call0 rfl (fun _ h => strings_Trim.ok a0 str_0 _ h) (LeL.eq rfl) (fun _ => rfl) (fun r2 => ?_)
    refine RS.go ?_
    refine RT.brT rfl ?_
    refine RT.brT rfl ?_
    refine RT.br rfl (fun c4 => ?_) (fun c4 => ?_)
    · refine RT.brT rfl ?_
      refine RT.call0 rfl (fun _ h => strings_ContainsAny.ok a0 str_1 _ h) (LeL.eq rfl) (fun _ => rfl) (fun r3 => ?_)
      refine RS.go ?_
      refine RT.brT rfl ?_
      exact RT.done rfl rfl (Le.refl _) trivial rfl (dom0 rfl)
    · refine RT.brF rfl ?_
      refine RT.brF rfl ?_
      exact RT.done rfl rfl (Le.refl _) trivial rfl (dom0 rfl)
  · refine RT.brF rfl ?_
    refine RT.brF rfl ?_
    refine RT.brF rfl ?_
    refine RT.brF rfl ?_
    refine RT.brF rfl ?_
    refine RT.brF rfl ?_
    exact RT.done rfl rfl (Le.refl _) trivial rfl (dom0 rfl)
/-! ### pileref1_baseAt: function 158 -/
def pileref1_baseAt.f (k : Nat) (a0 : ByteArray) : Option (Int) := ((strings_LastIndexAny.f k a0 (⟨#[48, 49, 50, 51, 52, 53, 54, 55, 56, 57]⟩ : ByteArray)).bind fun r1 => ((pileref1_plain.f a0 3 10).bind fun r2 => (if r2 = true then ((pileref1_in.f r1 1 3).bind fun r3 => (if r3 = true then ((pileref1_in.f (wrap64 ((wrap64 ((a0.size : Int) - 1)) - r1)) 1 4).bind fun r4 => (if r4 = true then (if 0 ≤ r1 then (if r1 ≤ (a0.size : Int) then ((strings_ContainsAny.f (a0.extract 0 (r1).toNat) str_1).bind fun r7 => (if r7 = true then Option.some r1 else Option.some (-1))) else Option.none) else Option.none) else Option.some (-1))) else Option.some (-1))) else Option.some (-1))))
theorem pileref1_baseAt.ok (k : Nat) (a0 : ByteArray) (r : Int) (h : pileref1_baseAt.f k a0 = some r) : Ct Tryz.prog B 158 [.str a0] (ofL []) (.int .i64 r) (ofL []) := by
  refine Ct.of (Y := (fam Tryz.f158 [] [] [] (fun r : Int => .int .i64 r) (fun r => []))) Tryz.func158 rfl Tryz.call158 rfl rfl ?_ r h
  unfold pileref1_baseAt.f
  refine RS.go ?_
  refine RT.call0 rfl (fun _ h => strings_LastIndexAny.ok k a0 (⟨#[48, 49, 50, 51, 52, 53, 54, 55, 56, 57]⟩ : ByteArray) _ h) (LeL.eq rfl) (fun _ => rfl) (fun r1 => ?_)
  refine RS.go ?_
  refine RT.call0 rfl (fun _ h => pileref1_plain.ok a0 3 10 _ h) (LeL.eq rfl) (fun _ => rfl) (fun r2 => ?_)
  refine RS.go ?_
  refine RT.brBN rfl (fun c11 => ?_) (fun c11 => ?_)
  · refine RT.brF rfl ?_
    refine RT.call0 rfl (fun _ h => pileref1_in.ok r1 1 3 _ h) (LeL.eq rfl) (fun _ => rfl) (fun r3 => ?_)
    refine RS.go ?_
    refine RT.brF rfl ?_
    refine RT.brF rfl ?_
    refine RT.brBN rfl (fun c10 => ?_) (fun c10 => ?_)
    · refine RT.brF rfl ?_
      refine RT.brF rfl ?_
      refine RT.brF rfl ?_
      refine RT.brF rfl ?_
      refine RT.brF rfl ?_
      refine RT.call0 rfl (fun _ h => pileref1_in.ok (wrap64 ((wrap64 ((a0.size : Int) - 1)) - r1)) 1 4 _ h) (LeL.eq rfl) (fun _ => rfl) (fun r4 => ?_)
      refine RS.go ?_
      refine RT.brF rfl ?_
      refine RT.brF rfl ?_
      refine RT.brBN rfl (fun c9 => ?_) (fun c9 => ?_)
      · refine RT.brF rfl ?_
        refine RT.brF rfl ?_
        refine RT.br rfl (fun c5 => ?_) (fun c5 => RT.none)
        refine RT.br rfl (fun c6 => ?_) (fun c6 => RT.none)
        refine RT.brF rfl ?_
        refine RT.call0 rfl (fun _ h => strings_ContainsAny.ok (a0.extract 0 (r1).toNat) str_1 _ h) (LeL.eq rfl) (fun _ => rfl) (fun r7 => ?_)
        refine RS.go ?_
        refine RT.brF rfl ?_
        refine RT.brF rfl ?_
        refine RT.brBN rfl (fun c8 => ?_) (fun c8 => ?_)
        · exact RT.done rfl rfl (Le.refl _) trivial rfl (dom0 rfl)
        · exact RT.done rfl rfl (Le.refl _) trivial rfl (dom0 rfl)
      · refine RT.brT rfl ?_
        refine RT.brT rfl ?_
        refine RT.brT rfl ?_
        refine RT.brT rfl ?_
        refine RT.brT rfl ?_
        refine RT.brT rfl ?_
        exact RT.done rfl rfl (Le.refl _) trivial rfl (dom0 rfl)
    · refine RT.brT rfl ?_
      refine RT.brT rfl ?_
      refine RT.brT rfl ?_
      refine RT.brT rfl ?_
      refine RT.brT rfl ?_
      refine RT.brT rfl ?_
      refine RT.brT rfl ?_
      refine RT.brT rfl ?_
      refine RT.brT rfl ?_
      refine RT.brT rfl ?_
      refine RT.brT rfl ?_
      refine RT.brT rfl ?_
      refine RT.brT rfl ?_
      refine RT.brT rfl ?_
      exact RT.done rfl rfl (Le.refl _) trivial rfl (dom0 rfl)
  · refine RT.brT rfl ?_
    refine RT.brT rfl ?_
    refine RT.brT rfl ?_
    refine RT.brT rfl ?_
    refine RT.brT rfl ?_
    refine RT.brT rfl ?_
    refine RT.brT rfl ?_
    refine RT.brT rfl ?_
    refine RT.brT rfl ?_
    refine RT.brT rfl ?_
    refine RT.brT rfl ?_
    refine RT.brT rfl ?_
    refine RT.brT rfl ?_
    refine RT.brT rfl ?_
    refine RT.brT rfl ?_
    refine RT.brT rfl ?_
    refine RT.brT rfl ?_
    refine RT.brT rfl ?_
    exact RT.done rfl rfl (Le.refl _) trivial rfl (dom0 rfl)
/-! ### pileref1_PartsOf_1: function 157 -/
def pileref1_PartsOf_1.k0 : List DK := [⟨[2, 15], [2], [], [2]⟩, ⟨[6, 10, 14], [], [15], []⟩, ⟨[11, 13], [], [14], []⟩, ⟨[12], [], [13], []⟩, ⟨[3], [], [12], []⟩, ⟨[0], [], [11], []⟩, ⟨[7, 9], [], [10], []⟩, ⟨[8], [], [9], []⟩, ⟨[3], [], [8], []⟩, ⟨[0], [], [7], []⟩, ⟨[0], [], [6], []⟩]
def pileref1_PartsOf_1.k1 : List Nat := [0, 0, 0, 4, 14, 0, 0, 64, 224, 511, 1023]
def pileref1_PartsOf_1.f (k : Nat) (a0 : ByteArray) : Option (ByteArray × ByteArray × ByteArray × Int × ByteArray) := ((pileref1_baseAt.f k a0).bind fun r1 => (if 0 ≤ wrap64 (r1 + 1) then (if wrap64 (r1 + 1) ≤ (a0.size : Int) then (if 0 ≤ wrap64 (r1 + 1) then (if wrap64 (r1 + 1) ≤ (a0.size : Int) then Option.some (a0, a0.extract 0 (wrap64 (r1 + 1)).toNat, a0.extract (wrap64 (r1 + 1)).toNat ((a0.size : Int)).toNat, 0, (⟨#[]⟩ : ByteArray)) else Option.none) else Option.none) else Option.none) else Option.none))
theorem pileref1_PartsOf_1.ok (k : Nat) (a0 : ByteArray) (r : ByteArray × ByteArray × ByteArray × Int × ByteArray) (h : pileref1_PartsOf_1.f k a0 = some r) : Ct Tryz.prog B 157 [.str a0] (ofL []) (.agg [.str r.1, .str r.2.1, .str r.2.2.1, .int .i64 r.2.2.2.1, .str r.2.2.2.2]) (ofL []) := by
  refine Ct.of (Y := (fam Tryz.f157 [] [] [] (fun r : ByteArray × ByteArray × ByteArray × Int × ByteArray => .agg [.str r.1, .str r.2.1, .str r.2.2.1, .int .i64 r.2.2.2.1, .str r.2.2.2.2]) (fun r => []))) Tryz.func157 rfl Tryz.call157 rfl rfl ?_ r h
  unfold pileref1_PartsOf_1.f
  refine RS.go ?_
  refine RT.call0 rfl (fun _ h => pileref1_baseAt.ok k a0 _ h) (LeL.eq rfl) (fun _ => rfl) (fun r1 => ?_)
  refine RS.go ?_
  refine RT.goto rfl ?_
  refine RS.draw rfl ?_
  refine RD.br rfl (fun c2 => ?_) (fun c2 => RD.none)
  refine RD.br rfl (fun c3 => ?_) (fun c3 => RD.none)
  refine RD.br rfl (fun c4 => ?_) (fun c4 => RD.none)
  refine RD.br rfl (fun c5 => ?_) (fun c5 => RD.none)
  refine RD.fin pileref1_PartsOf_1.k0 pileref1_PartsOf_1.k1 rfl rfl (by decide +kernel) ?_
  refine RS.go ?_
  exact RT.done rfl rfl (Le.refl _) trivial rfl (dom0 rfl)
/-! ### pileref1_begin: function 159 -/
def pileref1_begin.f (a0 : ByteArray) : Option (Bool) := ((pileref1_plain.f a0 1 4).bind fun r1 => Option.some r1)
theorem pileref1_begin.ok (a0 : ByteArray) (r : Bool) (h : pileref1_begin.f a0 = some r) : Ct Tryz.prog B 159 [.str a0] (ofL []) (.bool r) (ofL []) := by
  refine Ct.of (Y := (fam Tryz.f159 [] [] [] (fun r : Bool => .bool r) (fun r => []))) Tryz.func159 rfl Tryz.call159 rfl rfl ?_ r h
  unfold pileref1_begin.f
  refine RS.go ?_
  refine RT.call0 rfl (fun _ h => pileref1_plain.ok a0 1 4 _ h) (LeL.eq rfl) (fun _ => rfl) (fun r1 => ?_)
  refine RS.go ?_
  exact RT.done rfl rfl (Le.refl _) trivial rfl (dom0 rfl)
def strings_Contains.f (a0 : ByteArray) (a1 : ByteArray) : Option (Bool) := if a0.size < 4294967281 then some (Lib.contains a0.data.toList a1.data.toList) else none
theorem strings_Contains.ok (a0 : ByteArray) (a1 : ByteArray) (r : Bool) (h : strings_Contains.f a0 a1 = some r) : Ct Tryz.prog B 63 [.str a0, .str a1] (ofL []) (.bool r) (ofL []) := by
  unfold strings_Contains.f at h
  split at h
  case isFalse => cases h
  case isTrue c =>
  cases h
  refine Ct.lib Tryz.call63 rfl rfl fun g w hb => (((hbML hb).elim fun m hm => Tryz.strings_Contains a0 a1 m w c hm)).mono fun e w' ⟨he, hw⟩ => ⟨he, hw ▸ Below.refl _ _⟩

/-! ### pileref1_PartsOf: function 110 -/
def pileref1_PartsOf.j29 : Nat → ByteArray → ByteArray → ByteArray → Int → ByteArray → Option (ByteArray × ByteArray × ByteArray × Int × ByteArray × Bool)
  | 0, _, _, _, _, _ => Option.none
  | k + 1, o9_0j29, o9_1j29, o9_2j29, o9_3j29, o9_4j29 => Option.some (o9_0j29, o9_1j29, o9_2j29, o9_3j29, o9_4j29, true)
def pileref1_PartsOf.f (k : Nat) (a0 : ByteArray) : Option (ByteArray × ByteArray × ByteArray × Int × ByteArray × Bool) := ((strings_Cut.f a0 (⟨#[47]⟩ : ByteArray)).bind fun r1 => (if (a0.size : Int) > 14 then Option.some ((⟨#[]⟩ : ByteArray), (⟨#[]⟩ : ByteArray), (⟨#[]⟩ : ByteArray), 0, (⟨#[]⟩ : ByteArray), false) else (if r1.2.2 = true then ((pileref1_baseAt.f k r1.2.1).bind fun r5 => (if r5 ≥ 0 then ((pileref1_begin.f r1.1).bind fun r6 => (if r6 = true then ((pileref1_PartsOf_1.f k r1.2.1).bind fun r7 => Option.some (r7.1, r7.2.1, r7.2.2.1, 1, r1.1, true)) else ((pileref1_baseAt.f k r1.1).bind fun r8 => (if r8 < 0 then Option.some ((⟨#[]⟩ : ByteArray), (⟨#[]⟩ : ByteArray), (⟨#[]⟩ : ByteArray), 0, (⟨#[]⟩ : ByteArray), false) else ((pileref1_PartsOf_1.f k r1.1).bind fun r9 => (if r1.2.1 = (⟨#[112]⟩ : ByteArray) then pileref1_PartsOf.j29 k r9.1 r9.2.1 r9.2.2.1 3 r9.2.2.2.2 else (if r1.2.1 = (⟨#[109]⟩ : ByteArray) then pileref1_PartsOf.j29 k r9.1 r9.2.1 r9.2.2.1 4 r9.2.2.2.2 else (if r1.2.1 = (⟨#[109, 109]⟩ : ByteArray) then pileref1_PartsOf.j29 k r9.1 r9.2.1 r9.2.2.1 5 r9.2.2.2.2 else (if r1.2.1 = (⟨#[97, 109]⟩ : ByteArray) then pileref1_PartsOf.j29 k r9.1 r9.2.1 r9.2.2.1 6 r9.2.2.2.2 else (if (r1.2.1.size : Int) = 1 then ((strings_Contains.f (⟨#[48, 49, 50, 51, 52, 53, 54, 55, 56, 57]⟩ : ByteArray) r1.2.1).bind fun r10 => (if r10 = true then pileref1_PartsOf.j29 k r9.1 r9.2.1 r9.2.2.1 2 r1.2.1 else ((pileref1_begin.f r1.2.1).bind fun r11 => (if r11 = true then pileref1_PartsOf.j29 k r9.1 r9.2.1 r9.2.2.1 1 r1.2.1 else Option.some ((⟨#[]⟩ : ByteArray), (⟨#[]⟩ : ByteArray), (⟨#[]⟩ : ByteArray), 0, (⟨#[]⟩ : ByteArray), false))))) else ((pileref1_begin.f r1.2.1).bind fun r14 => (if r14 = true then pileref1_PartsOf.j29 k r9.1 r9.2.1 r9.2.2.1 1 r1.2.1 else Option.some ((⟨#[]⟩ : ByteArray), (⟨#[]⟩ : ByteArray), (⟨#[]⟩ : ByteArray), 0, (⟨#[]⟩ : ByteArray), false))))))))))))) else ((pileref1_baseAt.f k r1.1).bind fun r23 => (if r23 < 0 then Option.some ((⟨#[]⟩ : ByteArray), (⟨#[]⟩ : ByteArray), (⟨#[]⟩ : ByteArray), 0, (⟨#[]⟩ : ByteArray), false) else ((pileref1_PartsOf_1.f k r1.1).bind fun r24 => (if r1.2.1 = (⟨#[112]⟩ : ByteArray) then pileref1_PartsOf.j29 k r24.1 r24.2.1 r24.2.2.1 3 r24.2.2.2.2 else (if r1.2.1 = (⟨#[109]⟩ : ByteArray) then pileref1_PartsOf.j29 k r24.1 r24.2.1 r24.2.2.1 4 r24.2.2.2.2 else (if r1.2.1 = (⟨#[109, 109]⟩ : ByteArray) then pileref1_PartsOf.j29 k r24.1 r24.2.1 r24.2.2.1 5 r24.2.2.2.2 else (if r1.2.1 = (⟨#[97, 109]⟩ : ByteArray) then pileref1_PartsOf.j29 k r24.1 r24.2.1 r24.2.2.1 6 r24.2.2.2.2 else (if (r1.2.1.size : Int) = 1 then ((strings_Contains.f (⟨#[48, 49, 50, 51, 52, 53, 54, 55, 56, 57]⟩ : ByteArray) r1.2.1).bind fun r25 => (if r25 = true then pileref1_PartsOf.j29 k r24.1 r24.2.1 r24.2.2.1 2 r1.2.1 else ((pileref1_begin.f r1.2.1).bind fun r26 => (if r26 = true then pileref1_PartsOf.j29 k r24.1 r24.2.1 r24.2.2.1 1 r1.2.1 else Option.some ((⟨#[]⟩ : ByteArray), (⟨#[]⟩ : ByteArray), (⟨#[]⟩ : ByteArray), 0, (⟨#[]⟩ : ByteArray), false))))) else ((pileref1_begin.f r1.2.1).bind fun r29 => (if r29 = true then pileref1_PartsOf.j29 k r24.1 r24.2.1 r24.2.2.1 1 r1.2.1 else Option.some ((⟨#[]⟩ : ByteArray), (⟨#[]⟩ : ByteArray), (⟨#[]⟩ : ByteArray), 0, (⟨#[]⟩ : ByteArray), false))))))))))))) else ((pileref1_baseAt.f k r1.1).bind fun r2 => (if r2 < 0 then Option.some ((⟨#[]⟩ : ByteArray), (⟨#[]⟩ : ByteArray), (⟨#[]⟩ : ByteArray), 0, (⟨#[]⟩ : ByteArray), false) else ((pileref1_PartsOf_1.f k r1.1).bind fun r3 => Option.some (r3.1, r3.2.1, r3.2.2.1, r3.2.2.2.1, r3.2.2.2.2, true)))))))
theorem pileref1_PartsOf.loops : ∀ k, (∀ (o9_0j29 : ByteArray) (o9_1j29 : ByteArray) (o9_2j29 : ByteArray) (o9_3j29 : Int) (o9_4j29 : ByteArray), RS (fam Tryz.f110 [29] [] [] (fun r : ByteArray × ByteArray × ByteArray × Int × ByteArray × Bool => .tup [.agg [.str r.1, .str r.2.1, .str r.2.2.1, .int .i64 r.2.2.2.1, .str r.2.2.2.2.1], .bool r.2.2.2.2.2]) (fun r => [])) (Func.reg Tryz.f110 29) ⟨ofT [(2, .ref 2 0 0 0 5), (9, .ref 9 0 0 0 5)], ofL [(2, .box [.str (⟨#[]⟩ : ByteArray), .str (⟨#[]⟩ : ByteArray), .str (⟨#[]⟩ : ByteArray), .int .i64 0, .str (⟨#[]⟩ : ByteArray)]), (9, .box [.str o9_0j29, .str o9_1j29, .str o9_2j29, .int .i64 o9_3j29, .str o9_4j29])]⟩ (pileref1_PartsOf.j29 k o9_0j29 o9_1j29 o9_2j29 o9_3j29 o9_4j29))
  | 0 => by intro _ _ _ _ _; simp only [pileref1_PartsOf.j29]; exact RS.none
  | k + 1 => by
    have ih := pileref1_PartsOf.loops k
    · intro o9_0j29 o9_1j29 o9_2j29 o9_3j29 o9_4j29
      simp only [pileref1_PartsOf.j29]
      refine RS.region ?_
      refine RS.go ?_
      exact RT.done rfl rfl (Le.tup (LeL.cons (Le.refl _) (LeL.cons (Le.refl _) (LeL.nil)))) trivial rfl (dom0 rfl)
theorem pileref1_PartsOf.ok (k : Nat) (a0 : ByteArray) (r : ByteArray × ByteArray × ByteArray × Int × ByteArray × Bool) (h : pileref1_PartsOf.f k a0 = some r) : Ct Tryz.prog B 110 [.str a0] (ofL []) (.tup [.agg [.str r.1, .str r.2.1, .str r.2.2.1, .int .i64 r.2.2.2.1, .str r.2.2.2.2.1], .bool r.2.2.2.2.2]) (ofL []) := by
  refine Ct.of (Y := (fam Tryz.f110 [29] [] [] (fun r : ByteArray × ByteArray × ByteArray × Int × ByteArray × Bool => .tup [.agg [.str r.1, .str r.2.1, .str r.2.2.1, .int .i64 r.2.2.2.1, .str r.2.2.2.2.1], .bool r.2.2.2.2.2]) (fun r => []))) Tryz.func110 rfl Tryz.call110 rfl rfl ?_ r h
  unfold pileref1_PartsOf.f
  refine RS.go ?_
  refine RT.call0 rfl (fun _ h => strings_Cut.ok a0 (⟨#[47]⟩ : ByteArray) _ h) (LeL.eq rfl) (fun _ => rfl) (fun r1 => ?_)
  refine RS.go ?_
  refine RT.br rfl (fun c39 => ?_) (fun c39 => ?_)
  · exact RT.done rfl rfl (Le.tup (LeL.cons (Le.refl _) (LeL.cons (Le.refl _) (LeL.nil)))) trivial rfl (dom0 rfl)
  · refine RT.brBN rfl (fun c38 => ?_) (fun c38 => ?_)
    · refine RT.call0 rfl (fun _ h => pileref1_baseAt.ok k r1.2.1 _ h) (LeL.eq rfl) (fun _ => rfl) (fun r5 => ?_)
      refine RS.go ?_
      refine RT.br rfl (fun c37 => ?_) (fun c37 => ?_)
      · refine RT.brT rfl ?_
        refine RT.call0 rfl (fun _ h => pileref1_begin.ok r1.1 _ h) (LeL.eq rfl) (fun _ => rfl) (fun r6 => ?_)
        refine RS.go ?_
        refine RT.brT rfl ?_
        refine RT.brB rfl (fun c22 => ?_) (fun c22 => ?_)
        · refine RT.call0 rfl (fun _ h => pileref1_PartsOf_1.ok k r1.2.1 _ h) (LeL.eq rfl) (fun _ => rfl) (fun r7 => ?_)
          refine RS.go ?_
          exact RT.done rfl rfl (Le.tup (LeL.cons (Le.refl _) (LeL.cons (Le.refl _) (LeL.nil)))) trivial rfl (dom0 rfl)
        · refine RT.call0 rfl (fun _ h => pileref1_baseAt.ok k r1.1 _ h) (LeL.eq rfl) (fun _ => rfl) (fun r8 => ?_)
          refine RS.go ?_
          refine RT.br rfl (fun c21 => ?_) (fun c21 => ?_)
          · exact RT.done rfl rfl (Le.tup (LeL.cons (Le.refl _) (LeL.cons (Le.refl _) (LeL.nil)))) trivial rfl (dom0 rfl)
          · refine RT.call0 rfl (fun _ h => pileref1_PartsOf_1.ok k r1.1 _ h) (LeL.eq rfl) (fun _ => rfl) (fun r9 => ?_)
            refine RS.go ?_
            refine RT.br rfl (fun c20 => ?_) (fun c20 => ?_)
            · refine RT.goto rfl ?_
              refine RS.weak [(2, .ref 2 0 0 0 5), (9, .ref 9 0 0 0 5)] [(2, .box [.str (⟨#[]⟩ : ByteArray), .str (⟨#[]⟩ : ByteArray), .str (⟨#[]⟩ : ByteArray), .int .i64 0, .str (⟨#[]⟩ : ByteArray)]), (9, .box [.str r9.1, .str r9.2.1, .str r9.2.2.1, .int .i64 3, .str r9.2.2.2.2])] ⟨Le.eq (by first | rfl | simp), Le.eq (by first | rfl | simp), trivial⟩ ⟨⟨_, rfl, LeO.refl _⟩, ⟨_, rfl, LeO.refl _⟩, trivial⟩ rfl (dom0 rfl) ?_
              exact pileref1_PartsOf.loops k r9.1 r9.2.1 r9.2.2.1 3 r9.2.2.2.2 
            · refine RT.br rfl (fun c19 => ?_) (fun c19 => ?_)
              · refine RT.goto rfl ?_
                refine RS.weak [(2, .ref 2 0 0 0 5), (9, .ref 9 0 0 0 5)] [(2, .box [.str (⟨#[]⟩ : ByteArray), .str (⟨#[]⟩ : ByteArray), .str (⟨#[]⟩ : ByteArray), .int .i64 0, .str (⟨#[]⟩ : ByteArray)]), (9, .box [.str r9.1, .str r9.2.1, .str r9.2.2.1, .int .i64 4, .str r9.2.2.2.2])] ⟨Le.eq (by first | rfl | simp), Le.eq (by first | rfl | simp), trivial⟩ ⟨⟨_, rfl, LeO.refl _⟩, ⟨_, rfl, LeO.refl _⟩, trivial⟩ rfl (dom0 rfl) ?_
                exact pileref1_PartsOf.loops k r9.1 r9.2.1 r9.2.2.1 4 r9.2.2.2.2 
              · refine RT.br rfl (fun c18 => ?_) (fun c18 => ?_)
                · refine RT.goto rfl ?_
                  refine RS.weak [(2, .ref 2 0 0 0 5), (9, .ref 9 0 0 0 5)] [(2, .box [.str (⟨#[]⟩ : ByteArray), .str (⟨#[]⟩ : ByteArray), .str (⟨#[]⟩ : ByteArray), .int .i64 0, .str (⟨#[]⟩ : ByteArray)]), (9, .box [.str r9.1, .str r9.2.1, .str r9.2.2.1, .int .i64 5, .str r9.2.2.2.2])] ⟨Le.eq (by first | rfl | simp), Le.eq (by first | rfl | simp), trivial⟩ ⟨⟨_, rfl, LeO.refl _⟩, ⟨_, rfl, LeO.refl _⟩, trivial⟩ rfl (dom0 rfl) ?_
                  exact pileref1_PartsOf.loops k r9.1 r9.2.1 r9.2.2.1 5 r9.2.2.2.2 
                · refine RT.br rfl (fun c17 => ?_) (fun c17 => ?_)
                  · refine RT.goto rfl ?_
                    refine RS.weak [(2, .ref 2 0 0 0 5), (9, .ref 9 0 0 0 5)] [(2, .box [.str (⟨#[]⟩ : ByteArray), .str (⟨#[]⟩ : ByteArray), .str (⟨#[]⟩ : ByteArray), .int .i64 0, .str (⟨#[]⟩ : ByteArray)]), (9, .box [.str r9.1, .str r9.2.1, .str r9.2.2.1, .int .i64 6, .str r9.2.2.2.2])] ⟨Le.eq (by first | rfl | simp), Le.eq (by first | rfl | simp), trivial⟩ ⟨⟨_, rfl, LeO.refl _⟩, ⟨_, rfl, LeO.refl _⟩, trivial⟩ rfl (dom0 rfl) ?_
                    exact pileref1_PartsOf.loops k r9.1 r9.2.1 r9.2.2.1 6 r9.2.2.2.2 
                  · refine RT.br rfl (fun c16 => ?_) (fun c16 => ?_)
                    · refine RT.brT rfl ?_
                      refine RT.call0 rfl (fun _ h => strings_Contains.ok (⟨#[48, 49, 50, 51, 52, 53, 54, 55, 56, 57]⟩ : ByteArray) r1.2.1 _ h) (LeL.eq rfl) (fun _ => rfl) (fun r10 => ?_)
                      refine RS.go ?_
                      refine RT.brT rfl ?_
                      refine RT.brB rfl (fun c13 => ?_) (fun c13 => ?_)
                      · refine RT.goto rfl ?_
                        refine RS.weak [(2, .ref 2 0 0 0 5), (9, .ref 9 0 0 0 5)] [(2, .box [.str (⟨#[]⟩ : ByteArray), .str (⟨#[]⟩ : ByteArray), .str (⟨#[]⟩ : ByteArray), .int .i64 0, .str (⟨#[]⟩ : ByteArray)]), (9, .box [.str r9.1, .str r9.2.1, .str r9.2.2.1, .int .i64 2, .str r1.2.1])] ⟨Le.eq (by first | rfl | simp), Le.eq (by first | rfl | simp), trivial⟩ ⟨⟨_, rfl, LeO.refl _⟩, ⟨_, rfl, LeO.refl _⟩, trivial⟩ rfl (dom0 rfl) ?_
                        exact pileref1_PartsOf.loops k r9.1 r9.2.1 r9.2.2.1 2 r1.2.1 
                      · refine RT.call0 rfl (fun _ h => pileref1_begin.ok r1.2.1 _ h) (LeL.eq rfl) (fun _ => rfl) (fun r11 => ?_)
                        refine RS.go ?_
                        refine RT.brB rfl (fun c12 => ?_) (fun c12 => ?_)
                        · refine RT.goto rfl ?_
                          refine RS.weak [(2, .ref 2 0 0 0 5), (9, .ref 9 0 0 0 5)] [(2, .box [.str (⟨#[]⟩ : ByteArray), .str (⟨#[]⟩ : ByteArray), .str (⟨#[]⟩ : ByteArray), .int .i64 0, .str (⟨#[]⟩ : ByteArray)]), (9, .box [.str r9.1, .str r9.2.1, .str r9.2.2.1, .int .i64 1, .str r1.2.1])] ⟨Le.eq (by first | rfl | simp), Le.eq (by first | rfl | simp), trivial⟩ ⟨⟨_, rfl, LeO.refl _⟩, ⟨_, rfl, LeO.refl _⟩, trivial⟩ rfl (dom0 rfl) ?_
                          exact pileref1_PartsOf.loops k r9.1 r9.2.1 r9.2.2.1 1 r1.2.1 
                        · exact RT.done rfl rfl (Le.tup (LeL.cons (Le.refl _) (LeL.cons (Le.refl _) (LeL.nil)))) trivial rfl (dom0 rfl)
                    · refine RT.brF rfl ?_
                      refine RT.brF rfl ?_
                      refine RT.brF rfl ?_
                      refine RT.call0 rfl (fun _ h => pileref1_begin.ok r1.2.1 _ h) (LeL.eq rfl) (fun _ => rfl) (fun r14 => ?_)
                      refine RS.go ?_
                      refine RT.brB rfl (fun c15 => ?_) (fun c15 => ?_)
                      · refine RT.goto rfl ?_
                        refine RS.weak [(2, .ref 2 0 0 0 5), (9, .ref 9 0 0 0 5)] [(2, .box [.str (⟨#[]⟩ : ByteArray), .str (⟨#[]⟩ : ByteArray), .str (⟨#[]⟩ : ByteArray), .int .i64 0, .str (⟨#[]⟩ : ByteArray)]), (9, .box [.str r9.1, .str r9.2.1, .str r9.2.2.1, .int .i64 1, .str r1.2.1])] ⟨Le.eq (by first | rfl | simp), Le.eq (by first | rfl | simp), trivial⟩ ⟨⟨_, rfl, LeO.refl _⟩, ⟨_, rfl, LeO.refl _⟩, trivial⟩ rfl (dom0 rfl) ?_
                        exact pileref1_PartsOf.loops k r9.1 r9.2.1 r9.2.2.1 1 r1.2.1 
                      · exact RT.done rfl rfl (Le.tup (LeL.cons (Le.refl _) (LeL.cons (Le.refl _) (LeL.nil)))) trivial rfl (dom0 rfl)
      · refine RT.brF rfl ?_
        refine RT.brF rfl ?_
        refine RT.brF rfl ?_
        refine RT.call0 rfl (fun _ h => pileref1_baseAt.ok k r1.1 _ h) (LeL.eq rfl) (fun _ => rfl) (fun r23 => ?_)
        refine RS.go ?_
        refine RT.br rfl (fun c36 => ?_) (fun c36 => ?_)
        · exact RT.done rfl rfl (Le.tup (LeL.cons (Le.refl _) (LeL.cons (Le.refl _) (LeL.nil)))) trivial rfl (dom0 rfl)
        · refine RT.call0 rfl (fun _ h => pileref1_PartsOf_1.ok k r1.1 _ h) (LeL.eq rfl) (fun _ => rfl) (fun r24 => ?_)
          refine RS.go ?_
          refine RT.br rfl (fun c35 => ?_) (fun c35 => ?_)
          · refine RT.goto rfl ?_
            refine RS.weak [(2, .ref 2 0 0 0 5), (9, .ref 9 0 0 0 5)] [(2, .box [.str (⟨#[]⟩ : ByteArray), .str (⟨#[]⟩ : ByteArray), .str (⟨#[]⟩ : ByteArray), .int .i64 0, .str (⟨#[]⟩ : ByteArray)]), (9, .box [.str r24.1, .str r24.2.1, .str r24.2.2.1, .int .i64 3, .str r24.2.2.2.2])] ⟨Le.eq (by first | rfl | simp), Le.eq (by first | rfl | simp), trivial⟩ ⟨⟨_, rfl, LeO.refl _⟩, ⟨_, rfl, LeO.refl _⟩, trivial⟩ rfl (dom0 rfl) ?_
            exact pileref1_PartsOf.loops k r24.1 r24.2.1 r24.2.2.1 3 r24.2.2.2.2 
          · refine RT.br rfl (fun c34 => ?_) (fun c34 => ?_)
            · refine RT.goto rfl ?_
              refine RS.weak [(2, .ref 2 0 0 0 5), (9, .ref 9 0 0 0 5)] [(2, .box [.str (⟨#[]⟩ : ByteArray), .str (⟨#[]⟩ : ByteArray), .str (⟨#[]⟩ : ByteArray), .int .i64 0, .str (⟨#[]⟩ : ByteArray)]), (9, .box [.str r24.1, .str r24.2.1, .str r24.2.2.1, .int .i64 4, .str r24.2.2.2.2])] ⟨Le.eq (by first | rfl | simp), Le.eq (by first | rfl | simp), trivial⟩ ⟨⟨_, rfl, LeO.refl _⟩, ⟨_, rfl, LeO.refl _⟩, trivial⟩ rfl (dom0 rfl) ?_
              exact pileref1_PartsOf.loops k r24.1 r24.2.1 r24.2.2.1 4 r24.2.2.2.2 
            · refine RT.br rfl (fun c33 => ?_) (fun c33 => ?_)
              · refine RT.goto rfl ?_
                refine RS.weak [(2, .ref 2 0 0 0 5), (9, .ref 9 0 0 0 5)] [(2, .box [.str (⟨#[]⟩ : ByteArray), .str (⟨#[]⟩ : ByteArray), .str (⟨#[]⟩ : ByteArray), .int .i64 0, .str (⟨#[]⟩ : ByteArray)]), (9, .box [.str r24.1, .str r24.2.1, .str r24.2.2.1, .int .i64 5, .str r24.2.2.2.2])] ⟨Le.eq (by first | rfl | simp), Le.eq (by first | rfl | simp), trivial⟩ ⟨⟨_, rfl, LeO.refl _⟩, ⟨_, rfl, LeO.refl _⟩, trivial⟩ rfl (dom0 rfl) ?_
                exact pileref1_PartsOf.loops k r24.1 r24.2.1 r24.2.2.1 5 r24.2.2.2.2 
              · refine RT.br rfl (fun c32 => ?_) (fun c32 => ?_)
                · refine RT.goto rfl ?_
                  refine RS.weak [(2, .ref 2 0 0 0 5), (9, .ref 9 0 0 0 5)] [(2, .box [.str (⟨#[]⟩ : ByteArray), .str (⟨#[]⟩ : ByteArray), .str (⟨#[]⟩ : ByteArray), .int .i64 0, .str (⟨#[]⟩ : ByteArray)]), (9, .box [.str r24.1, .str r24.2.1, .str r24.2.2.1, .int .i64 6, .str r24.2.2.2.2])] ⟨Le.eq (by first | rfl | simp), Le.eq (by first | rfl | simp), trivial⟩ ⟨⟨_, rfl, LeO.refl _⟩, ⟨_, rfl, LeO.refl _⟩, trivial⟩ rfl (dom0 rfl) ?_
                  exact pileref1_PartsOf.loops k r24.1 r24.2.1 r24.2.2.1 6 r24.2.2.2.2 
                · refine RT.br rfl (fun c31 => ?_) (fun c31 => ?_)
                  · refine RT.brT rfl ?_
                    refine RT.call0 rfl (fun _ h => strings_Contains.ok (⟨#[48, 49, 50, 51, 52, 53, 54, 55, 56, 57]⟩ : ByteArray) r1.2.1 _ h) (LeL.eq rfl) (fun _ => rfl) (fun r25 => ?_)
                    refine RS.go ?_
                    refine RT.brT rfl ?_
                    refine RT.brB rfl (fun c28 => ?_) (fun c28 => ?_)
                    · refine RT.goto rfl ?_
                      refine RS.weak [(2, .ref 2 0 0 0 5), (9, .ref 9 0 0 0 5)] [(2, .box [.str (⟨#[]⟩ : ByteArray), .str (⟨#[]⟩ : ByteArray), .str (⟨#[]⟩ : ByteArray), .int .i64 0, .str (⟨#[]⟩ : ByteArray)]), (9, .box [.str r24.1, .str r24.2.1, .str r24.2.2.1, .int .i64 2, .str r1.2.1])] ⟨Le.eq (by first | rfl | simp), Le.eq (by first | rfl | simp), trivial⟩ ⟨⟨_, rfl, LeO.refl _⟩, ⟨_, rfl, LeO.refl _⟩, trivial⟩ rfl (dom0 rfl) ?_
                      exact pileref1_PartsOf.loops k r24.1 r24.2.1 r24.2.2.1 2 r1.2.1 
                    · refine RT.call0 rfl (fun _ h => pileref1_begin.ok r1.2.1 _ h) (LeL.eq rfl) (fun _ => rfl) (fun r26 => ?_)
                      refine RS.go ?_
                      refine RT.brB rfl (fun c27 => ?_) (fun c27 => ?_)
                      · refine RT.goto rfl ?_
                        refine RS.weak [(2, .ref 2 0 0 0 5), (9, .ref 9 0 0 0 5)] [(2, .box [.str (⟨#[]⟩ : ByteArray), .str (⟨#[]⟩ : ByteArray), .str (⟨#[]⟩ : ByteArray), .int .i64 0, .str (⟨#[]⟩ : ByteArray)]), (9, .box [.str r24.1, .str r24.2.1, .str r24.2.2.1, .int .i64 1, .str r1.2.1])] ⟨Le.eq (by first | rfl | simp), Le.eq (by first | rfl | simp), trivial⟩ ⟨⟨_, rfl, LeO.refl _⟩, ⟨_, rfl, LeO.refl _⟩, trivial⟩ rfl (dom0 rfl) ?_
                        exact pileref1_PartsOf.loops k r24.1 r24.2.1 r24.2.2.1 1 r1.2.1 
                      · exact RT.done rfl rfl (Le.tup (LeL.cons (Le.refl _) (LeL.cons (Le.refl _) (LeL.nil)))) trivial rfl (dom0 rfl)
                  · refine RT.brF rfl ?_
                    refine RT.brF rfl ?_
                    refine RT.brF rfl ?_
                    refine RT.call0 rfl (fun _ h => pileref1_begin.ok r1.2.1 _ h) (LeL.eq rfl) (fun _ => rfl) (fun r29 => ?_)
                    refine RS.go ?_
                    refine RT.brB rfl (fun c30 => ?_) (fun c30 => ?_)
                    · refine RT.goto rfl ?_
                      refine RS.weak [(2, .ref 2 0 0 0 5), (9, .ref 9 0 0 0 5)] [(2, .box [.str (⟨#[]⟩ : ByteArray), .str (⟨#[]⟩ : ByteArray), .str (⟨#[]⟩ : ByteArray), .int .i64 0, .str (⟨#[]⟩ : ByteArray)]), (9, .box [.str r24.1, .str r24.2.1, .str r24.2.2.1, .int .i64 1, .str r1.2.1])] ⟨Le.eq (by first | rfl | simp), Le.eq (by first | rfl | simp), trivial⟩ ⟨⟨_, rfl, LeO.refl _⟩, ⟨_, rfl, LeO.refl _⟩, trivial⟩ rfl (dom0 rfl) ?_
                      exact pileref1_PartsOf.loops k r24.1 r24.2.1 r24.2.2.1 1 r1.2.1 
                    · exact RT.done rfl rfl (Le.tup (LeL.cons (Le.refl _) (LeL.cons (Le.refl _) (LeL.nil)))) trivial rfl (dom0 rfl)
    · refine RT.call0 rfl (fun _ h => pileref1_baseAt.ok k r1.1 _ h) (LeL.eq rfl) (fun _ => rfl) (fun r2 => ?_)
      refine RS.go ?_
      refine RT.br rfl (fun c4 => ?_) (fun c4 => ?_)
      · exact RT.done rfl rfl (Le.tup (LeL.cons (Le.refl _) (LeL.cons (Le.refl _) (LeL.nil)))) trivial rfl (dom0 rfl)
      · refine RT.call0 rfl (fun _ h => pileref1_PartsOf_1.ok k r1.1 _ h) (LeL.eq rfl) (fun _ => rfl) (fun r3 => ?_)
        refine RS.go ?_
        exact RT.done rfl rfl (Le.tup (LeL.cons (Le.refl _) (LeL.cons (Le.refl _) (LeL.nil)))) trivial rfl (dom0 rfl)
/-! ### pileref1_IsCall: function 52 -/
def pileref1_IsCall.f (k : Nat) (a0 : ByteArray) : Option (Bool) := ((pileref1_PartsOf.f k a0).bind fun r1 => Option.some r1.2.2.2.2.2)
theorem pileref1_IsCall.ok (k : Nat) (a0 : ByteArray) (r : Bool) (h : pileref1_IsCall.f k a0 = some r) : Ct Tryz.prog B 52 [.str a0] (ofL []) (.bool r) (ofL []) := by
  refine Ct.of (Y := (fam Tryz.f52 [] [] [] (fun r : Bool => .bool r) (fun r => []))) Tryz.func52 rfl Tryz.call52 rfl rfl ?_ r h
  unfold pileref1_IsCall.f
  refine RS.go ?_
  refine RT.call0 rfl (fun _ h => pileref1_PartsOf.ok k a0 _ h) (LeL.eq rfl) (fun _ => rfl) (fun r1 => ?_)
  refine RS.go ?_
  exact RT.done rfl rfl (Le.refl _) trivial rfl (dom0 rfl)
/-! ### pilemake_Stream_RightCall: function 8 -/
def pilemake_Stream_RightCall.l0 : Nat → Int → List Int → Int → Option (ByteArray × (List Int) × Int)
  | 0, _, _, _ => Option.none
  | k + 1, x4, o100000_0, o100000_1 => (if x4 < 6 then ((pilemake_Stream_CallOf.f k o100000_0 o100000_1).bind fun r1 => ((pileref1_IsCall.f k r1.1).bind fun r2 => (if r2 = true then Option.some (r1.1, r1.2.1, r1.2.2) else pilemake_Stream_RightCall.l0 k (wrap64 (x4 + 1)) r1.2.1 r1.2.2))) else Option.some ((⟨#[107, 49, 97, 98]⟩ : ByteArray), o100000_0, o100000_1))
def pilemake_Stream_RightCall.f (k : Nat) (p0_0 : List Int) (p0_1 : Int) : Option (ByteArray × (List Int) × Int) := pilemake_Stream_RightCall.l0 k 0 p0_0 p0_1
theorem pilemake_Stream_RightCall.loops (p0_0 : List Int) (p0_1 : Int) : ∀ k, (∀ (x4 : Int) (o100000_0 : List Int) (o100000_1 : Int), RS (fam Tryz.f8 [] [] [(100000, .box [sq eI p0_0, .int .i64 p0_1])] (fun r : ByteArray × (List Int) × Int => .str r.1) (fun r => [(100000, .box [sq eI r.2.1, .int .i64 r.2.2])])) (Func.head Tryz.f8 0) ⟨ofT [(0, .ref 100000 0 0 0 2), (4, .int .i64 x4)], ofL [(100000, .box [sq eI o100000_0, .int .i64 o100000_1])]⟩ (pilemake_Stream_RightCall.l0 k x4 o100000_0 o100000_1))
  | 0 => by intro _ _ _; simp only [pilemake_Stream_RightCall.l0]; exact RS.none
  | k + 1 => by
    have ih := pilemake_Stream_RightCall.loops p0_0 p0_1 k
    · intro x4 o100000_0 o100000_1
      simp only [pilemake_Stream_RightCall.l0]
      refine RS.go ?_
      refine RT.br rfl (fun c4 => ?_) (fun c4 => ?_)
      · refine RT.call rfl (fun _ h => pilemake_Stream_CallOf.ok k o100000_0 o100000_1 _ h) (fun i => bif Nat.beq i 100000 then 100000 else i) (LeL.eq rfl) ⟨⟨_, rfl, LeO.refl _⟩, trivial⟩ (fun _ => rfl) (fun r1 => ?_)
        refine RS.go ?_
        refine RT.call0 rfl (fun _ h => pileref1_IsCall.ok k r1.1 _ h) (LeL.eq rfl) (fun _ => rfl) (fun r2 => ?_)
        refine RS.go ?_
        refine RT.brB rfl (fun c3 => ?_) (fun c3 => ?_)
        · exact RT.done rfl rfl (Le.refl _) ⟨⟨_, rfl, LeO.refl _⟩, trivial⟩ rfl (dom_of rfl)
        · refine RT.goto rfl ?_
          refine RS.weak [(0, .ref 100000 0 0 0 2), (4, .int .i64 (wrap64 (x4 + 1)))] [(100000, .box [sq eI r1.2.1, .int .i64 r1.2.2])] ⟨Le.eq (by first | rfl | simp), Le.eq (by first | rfl | simp), trivial⟩ ⟨⟨_, rfl, LeO.refl _⟩, trivial⟩ rfl (dom_of rfl) ?_
          exact ih (wrap64 (x4 + 1)) r1.2.1 r1.2.2 
      · exact RT.done rfl rfl (Le.refl _) ⟨⟨_, rfl, LeO.refl _⟩, trivial⟩ rfl (dom_of rfl)
theorem pilemake_Stream_RightCall.ok (k : Nat) (p0_0 : List Int) (p0_1 : Int) (r : ByteArray × (List Int) × Int) (h : pilemake_Stream_RightCall.f k p0_0 p0_1 = some r) : Ct Tryz.prog B 8 [.ref 100000 0 0 0 2] (ofL [(100000, .box [sq eI p0_0, .int .i64 p0_1])]) (.str r.1) (ofL [(100000, .box [sq eI r.2.1, .int .i64 r.2.2])]) := by
  refine Ct.of (Y := (fam Tryz.f8 [] [] [(100000, .box [sq eI p0_0, .int .i64 p0_1])] (fun r : ByteArray × (List Int) × Int => .str r.1) (fun r => [(100000, .box [sq eI r.2.1, .int .i64 r.2.2])]))) Tryz.func8 rfl Tryz.call8 rfl rfl ?_ r h
  unfold pilemake_Stream_RightCall.f
  refine RS.go ?_
  refine RT.goto rfl ?_
  refine RS.weak [(0, .ref 100000 0 0 0 2), (4, .int .i64 0)] [(100000, .box [sq eI p0_0, .int .i64 p0_1])] ⟨Le.eq (by first | rfl | simp), Le.eq (by first | rfl | simp), trivial⟩ ⟨⟨_, rfl, LeO.refl _⟩, trivial⟩ rfl (dom_of rfl) ?_
  exact pilemake_Stream_RightCall.loops p0_0 p0_1 k 0 p0_0 p0_1 
/-! ### pilemake_Stream_Pick: function 9 -/
def pilemake_Stream_Pick.f (k : Nat) (p0_0 : List Int) (p0_1 : Int) (l1 : List Int) : Option (Int × (List Int) × Int) := ((pilemake_Stream_Next.f k p0_0 p0_1 (l1.length : Int)).bind fun r1 => (if 0 ≤ r1.1 then (if r1.1 < (l1.length : Int) then Option.some ((rd l1 r1.1), r1.2.1, r1.2.2) else Option.none) else Option.none))
theorem pilemake_Stream_Pick.ok (k : Nat) (p0_0 : List Int) (p0_1 : Int) (l1 : List Int) (r : Int × (List Int) × Int) (h : pilemake_Stream_Pick.f k p0_0 p0_1 l1 = some r) : Ct Tryz.prog B 9 [.ref 100000 0 0 0 2, sq eI l1] (ofL [(100000, .box [sq eI p0_0, .int .i64 p0_1])]) (.int .i64 r.1) (ofL [(100000, .box [sq eI r.2.1, .int .i64 r.2.2])]) := by
  refine Ct.of (Y := (fam Tryz.f9 [] [] [(100000, .box [sq eI p0_0, .int .i64 p0_1])] (fun r : Int × (List Int) × Int => .int .i64 r.1) (fun r => [(100000, .box [sq eI r.2.1, .int .i64 r.2.2])]))) Tryz.func9 rfl Tryz.call9 rfl rfl ?_ r h
  unfold pilemake_Stream_Pick.f
  refine RS.go ?_
  refine RT.call rfl (fun _ h => pilemake_Stream_Next.ok k p0_0 p0_1 (l1.length : Int) _ h) (fun i => bif Nat.beq i 100000 then 100000 else i) (LeL.eq rfl) ⟨⟨_, rfl, LeO.refl _⟩, trivial⟩ (fun _ => rfl) (fun r1 => ?_)
  refine RS.go ?_
  refine RT.br rfl (fun c2 => ?_) (fun c2 => RT.none)
  refine RT.br rfl (fun c3 => ?_) (fun c3 => RT.none)
  exact RT.done rfl rfl (Le.refl _) ⟨⟨_, rfl, LeO.refl _⟩, trivial⟩ rfl (dom_of rfl)
def strings_Split.f (a0 : ByteArray) (a1 : ByteArray) : Option (List ByteArray) := if a0.size < 4294967281 ∧ 1 ≤ a1.size then some (Lib.splitB a1 0 (Lib.countB a0 a1) a0) else none
theorem strings_Split.ok (a0 : ByteArray) (a1 : ByteArray) (r : List ByteArray) (h : strings_Split.f a0 a1 = some r) : Ct Tryz.prog B 77 [.str a0, .str a1] (ofL []) (sq eS r) (ofL []) := by
  unfold strings_Split.f at h
  split at h
  case isFalse => cases h
  case isTrue c =>
  cases h
  refine Ct.libS Tryz.call77 rfl fun g w hb => ?_
  obtain ⟨m, hm⟩ := hbML hb
  refine (Tryz.strings_Split a0 a1 m w c.1 hm c.2).mono fun e w' ⟨he, hw⟩ => ⟨_, he, ?_⟩
  subst hw
  have hl : (Lib.splitB a1 0 (Lib.countB a0 a1) a0).length = Lib.countB a0 a1 + 1 := Lib.splitB_all a1 c.2 0 _ a0 rfl
  exact newS hl

/-! ### kit_Words: function 112 -/
def kit_Words.l0 : Nat → List ByteArray → List ByteArray → Int → Int → Option ((List ByteArray) × Bool)
  | 0, _, _, _, _ => Option.none
  | k + 1, x4, x9, x10, x11 => (if x11 < x10 then (if 0 ≤ x11 then (if x11 < (x9.length : Int) then (if (rdE eS x9 x11) = (⟨#[]⟩ : ByteArray) then Option.some ([], false) else kit_Words.l0 k x4 x9 x10 (wrap64 (x11 + 1))) else Option.none) else Option.none) else Option.some (x4, true))
def kit_Words.f (k : Nat) (a0 : ByteArray) : Option ((List ByteArray) × Bool) := ((strings_Split.f a0 (⟨#[32]⟩ : ByteArray)).bind fun r1 => kit_Words.l0 k r1 r1 (r1.length : Int) 0)
theorem kit_Words.loops : ∀ k, (∀ (x4 : List ByteArray) (x9 : List ByteArray) (x10 : Int) (x11 : Int), RS (fam Tryz.f112 [] [] [] (fun r : (List ByteArray) × Bool => .tup [sq eS r.1, .bool r.2]) (fun r => [])) (Func.head Tryz.f112 0) ⟨ofT [(4, sq eS x4), (9, sq eS x9), (10, .int .i64 x10), (11, .int .i64 x11)], ofL []⟩ (kit_Words.l0 k x4 x9 x10 x11))
  | 0 => by intro _ _ _ _; simp only [kit_Words.l0]; exact RS.none
  | k + 1 => by
    have ih := kit_Words.loops k
    · intro x4 x9 x10 x11
      simp only [kit_Words.l0]
      refine RS.go ?_
      refine RT.br rfl (fun c5 => ?_) (fun c5 => ?_)
      · refine RT.br rfl (fun c2 => ?_) (fun c2 => RT.none)
        refine RT.br rfl (fun c3 => ?_) (fun c3 => RT.none)
        refine RT.br rfl (fun c4 => ?_) (fun c4 => ?_)
        · exact RT.done rfl rfl (Le.tup (LeL.cons (Le.nil _ _) (LeL.cons (Le.refl _) (LeL.nil)))) trivial rfl (dom0 rfl)
        · refine RT.goto rfl ?_
          refine RS.weak [(4, sq eS x4), (9, sq eS x9), (10, .int .i64 x10), (11, .int .i64 (wrap64 (x11 + 1)))] [] ⟨Le.eq (by first | rfl | simp), Le.eq (by first | rfl | simp), Le.eq (by first | rfl | simp), Le.eq (by first | rfl | simp), trivial⟩ trivial rfl (dom0 rfl) ?_
          exact ih x4 x9 x10 (wrap64 (x11 + 1)) 
      · exact RT.done rfl rfl (Le.tup (LeL.cons (Le.refl _) (LeL.cons (Le.refl _) (LeL.nil)))) trivial rfl (dom0 rfl)
theorem kit_Words.ok (k : Nat) (a0 : ByteArray) (r : (List ByteArray) × Bool) (h : kit_Words.f k a0 = some r) : Ct Tryz.prog B 112 [.str a0] (ofL []) (.tup [sq eS r.1, .bool r.2]) (ofL []) := by
  refine Ct.of (Y := (fam Tryz.f112 [] [] [] (fun r : (List ByteArray) × Bool => .tup [sq eS r.1, .bool r.2]) (fun r => []))) Tryz.func112 rfl Tryz.call112 rfl rfl ?_ r h
  unfold kit_Words.f
  refine RS.go ?_
  refine RT.call0 rfl (fun _ h => strings_Split.ok a0 (⟨#[32]⟩ : ByteArray) _ h) (LeL.eq rfl) (fun _ => rfl) (fun r1 => ?_)
  refine RS.go ?_
  refine RT.goto rfl ?_
  refine RS.weak [(4, sq eS r1), (9, sq eS r1), (10, .int .i64 (r1.length : Int)), (11, .int .i64 0)] [] ⟨Le.eq (by first | rfl | simp), Le.eq (by first | rfl | simp), Le.eq (by first | rfl | simp), Le.eq (by first | rfl | simp), trivial⟩ trivial rfl (dom0 rfl) ?_
  exact kit_Words.loops k r1 r1 (r1.length : Int) 0 
def strings_Fields.f (a0 : ByteArray) : Option (List ByteArray) := if a0.size < 4294967281 ∧ asciiT a0 = true then some ((Lib.fields a0.data.toList).map fun l => ⟨l.toArray⟩) else none
theorem strings_Fields.ok (a0 : ByteArray) (r : List ByteArray) (h : strings_Fields.f a0 = some r) : Ct Tryz.prog B 76 [.str a0] (ofL []) (sq eS r) (ofL []) := by
  unfold strings_Fields.f at h
  split at h
  case isFalse => cases h
  case isTrue c =>
  cases h
  refine Ct.libS Tryz.call76 rfl fun g w hb => ?_
  refine (Tryz.strings_Fields a0 w c.1 (asciiT_at c.2) (hbAsc hb)).mono fun e w' ⟨he, hw⟩ => ⟨_, he, ?_⟩
  subst hw
  have key : ∀ T, NewSl eS ((Lib.fields a0.data.toList).map fun l => (⟨l.toArray⟩ : ByteArray)) w (.slice (some ⟨w.heap.size, 0, none⟩) (Lib.fields a0.data.toList).length (Lib.fields a0.data.toList).length) (w.alloc (.cells ((Lib.fields a0.data.toList).map fun l => Value.string ⟨l.toArray⟩).toArray T)) := fun T => by
    have := newS (w := w) (T := T) (l := (Lib.fields a0.data.toList).map fun l => (⟨l.toArray⟩ : ByteArray)) (n := (Lib.fields a0.data.toList).length) (by simp)
    rwa [List.map_map] at this
  exact key _

/-! ### key_Codes: function 20 -/
def key_Codes.k0 : List DK := [⟨[23], [], [2], []⟩, ⟨[11, 22], [23, 2], [23], [2]⟩, ⟨[21], [22], [22], []⟩, ⟨[15, 20], [], [21], []⟩, ⟨[19], [], [20], []⟩, ⟨[16, 18], [], [19], []⟩, ⟨[17], [], [18], []⟩, ⟨[3], [], [17], []⟩, ⟨[1], [], [16], []⟩, ⟨[14], [], [15], []⟩, ⟨[12, 13], [], [14], []⟩, ⟨[3], [], [13], []⟩, ⟨[1], [], [12], []⟩, ⟨[2], [], [11], []⟩]
def key_Codes.k1 : List Nat := [0, 0, 0, 6, 14, 0, 0, 64, 224, 480, 1022, 2046, 4095, 8191]
def key_Codes.l0 : Nat → List ByteArray → Int → List (ByteArray × ByteArray) → Option ((List (ByteArray × ByteArray)))
  | 0, _, _, _ => Option.none
  | k + 1, x1, x3, o2 => (if x3 < (x1.length : Int) then (if 0 ≤ x3 then (if x3 < (x1.length : Int) then (if 0 ≤ wrap64 (x3 + 1) then (if wrap64 (x3 + 1) < (x1.length : Int) then (if o2.length + [((rdE eS x1 x3), (rdE eS x1 (wrap64 (x3 + 1))))].length ≤ 549755813888 then key_Codes.l0 k x1 (wrap64 (x3 + 2)) (o2 ++ [((rdE eS x1 x3), (rdE eS x1 (wrap64 (x3 + 1))))]) else Option.none) else Option.none) else Option.none) else Option.none) else Option.none) else Option.some o2)
def key_Codes.f (k : Nat) : Option ((List (ByteArray × ByteArray))) := ((strings_Fields.f str_2).bind fun r1 => key_Codes.l0 k r1 0 [])
theorem key_Codes.loops : ∀ k, (∀ (x1 : List ByteArray) (x3 : Int) (o2 : List (ByteArray × ByteArray)), RS (fam Tryz.f20 [] [] [] (fun r : (List (ByteArray × ByteArray)) => sq e_SS r) (fun r => [])) (Func.head Tryz.f20 0) ⟨ofT [(1, sq eS x1), (2, .osl 2 e_SS.w 0 o2.length o2.length), (3, .int .i64 x3)], ofL [(2, bufE e_SS o2)]⟩ (key_Codes.l0 k x1 x3 o2))
  | 0 => by intro _ _ _; simp only [key_Codes.l0]; exact RS.none
  | k + 1 => by
    have ih := key_Codes.loops k
    · intro x1 x3 o2
      simp only [key_Codes.l0]
      refine RS.go ?_
      refine RT.br rfl (fun c7 => ?_) (fun c7 => ?_)
      · refine RT.goto rfl ?_
        refine RS.draw rfl ?_
        refine RD.br rfl (fun c2 => ?_) (fun c2 => RD.none)
        refine RD.br rfl (fun c3 => ?_) (fun c3 => RD.none)
        refine RD.br rfl (fun c4 => ?_) (fun c4 => RD.none)
        refine RD.br rfl (fun c5 => ?_) (fun c5 => RD.none)
        refine RD.req rfl ⟨by first | rfl | simp, by first | exact Nat.le_refl _ | simp⟩ ?_
        refine RD.not rfl (by simp <;> omega) ?_
        refine RD.br rfl (fun c6 => ?_) (fun _ => RD.none)
        refine RD.fin key_Codes.k0 key_Codes.k1 rfl rfl (by decide +kernel) ?_
        refine RS.obj 2 (bufE e_SS (o2 ++ [((rdE eS x1 x3), (rdE eS x1 (wrap64 (x3 + 1))))])) ⟨_, rfl, LeO.app (l := o2) (m := [((rdE eS x1 x3), (rdE eS x1 (wrap64 (x3 + 1))))]) (cells_of rfl)⟩ ?_
        refine RS.slot 2 (.osl 2 e_SS.w 0 (o2 ++ [((rdE eS x1 x3), (rdE eS x1 (wrap64 (x3 + 1))))]).length (o2 ++ [((rdE eS x1 x3), (rdE eS x1 (wrap64 (x3 + 1))))]).length) (Le.oslN rfl (by simp)) ?_
        refine RS.slot 23 (.osl 2 e_SS.w 0 (o2 ++ [((rdE eS x1 x3), (rdE eS x1 (wrap64 (x3 + 1))))]).length (o2 ++ [((rdE eS x1 x3), (rdE eS x1 (wrap64 (x3 + 1))))]).length) (Le.oslN rfl (by simp)) ?_
        refine RS.go ?_
        refine RT.goto rfl ?_
        refine RS.weak [(1, sq eS x1), (2, .osl 2 e_SS.w 0 (o2 ++ [((rdE eS x1 x3), (rdE eS x1 (wrap64 (x3 + 1))))]).length (o2 ++ [((rdE eS x1 x3), (rdE eS x1 (wrap64 (x3 + 1))))]).length), (3, .int .i64 (wrap64 (x3 + 2)))] [(2, bufE e_SS (o2 ++ [((rdE eS x1 x3), (rdE eS x1 (wrap64 (x3 + 1))))]))] ⟨Le.eq (by first | rfl | simp), (by first | exact Le.oslN rfl (by first | rfl | simp) | exact Le.refl _ | exact Le.eq (by first | rfl | simp)), Le.eq (by first | rfl | simp), trivial⟩ ⟨⟨_, rfl, LeO.refl _⟩, trivial⟩ rfl (dom0 rfl) ?_
        exact ih x1 (wrap64 (x3 + 2)) (o2 ++ [((rdE eS x1 x3), (rdE eS x1 (wrap64 (x3 + 1))))]) 
      · refine RT.freeze 2 _ _ _ [(0, sq e_SS o2)] [] rfl rfl ⟨.inr ⟨_, rfl, by first | exact Nat.le_refl _ | simp, rfl⟩, trivial⟩ trivial rfl (dom0 rfl) ?_
        exact RT.done rfl rfl (Le.refl _) trivial rfl (dom0 rfl)
theorem key_Codes.ok (k : Nat) (r : (List (ByteArray × ByteArray))) (h : key_Codes.f k  = some r) : Ct Tryz.prog B 20 [] (ofL []) (sq e_SS r) (ofL []) := by
  refine Ct.of (Y := (fam Tryz.f20 [] [] [] (fun r : (List (ByteArray × ByteArray)) => sq e_SS r) (fun r => []))) Tryz.func20 rfl Tryz.call20 rfl rfl ?_ r h
  unfold key_Codes.f
  refine RS.go ?_
  refine RT.call0 rfl (fun _ h => strings_Fields.ok str_2 _ h) (LeL.eq rfl) (fun _ => rfl) (fun r1 => ?_)
  refine RS.go ?_
  refine RT.goto rfl ?_
  refine RS.ghost 2 2 e_SS.w (rep e_SS []) rfl rfl ?_
  refine RS.weak [(1, sq eS r1), (2, .osl 2 e_SS.w 0 ([] : List (ByteArray × ByteArray)).length ([] : List (ByteArray × ByteArray)).length), (3, .int .i64 0)] [(2, bufE e_SS ([] : List (ByteArray × ByteArray)))] ⟨Le.eq (by first | rfl | simp), (by first | exact Le.oslN rfl (by first | rfl | simp) | exact Le.refl _ | exact Le.eq (by first | rfl | simp)), Le.eq (by first | rfl | simp), trivial⟩ ⟨⟨_, rfl, LeO.refl _⟩, trivial⟩ rfl (dom0 rfl) ?_
  exact key_Codes.loops k r1 0 [] 
/-! ### key_byBytes: function 64 -/
def key_byBytes.k0 : List DK := [⟨[11, 14, 16], [4], [], [4]⟩, ⟨[15], [3], [16], []⟩, ⟨[3], [3], [15], []⟩, ⟨[13], [], [14], []⟩, ⟨[12], [3], [13], []⟩, ⟨[3], [3], [12], []⟩, ⟨[1], [], [11], []⟩]
def key_byBytes.k1 : List Nat := [0, 0, 2, 6, 0, 16, 63]
def key_byBytes.l0 : Nat → List (ByteArray × ByteArray) → Int → Int → List (Int × ByteArray) → Option ((List (Int × ByteArray)))
  | 0, _, _, _, _ => Option.none
  | k + 1, x5, x6, x7, o4 => (if x7 < x6 then (if 0 ≤ x7 then (if x7 < (x5.length : Int) then (if 0 < (((rdE e_SS x5 x7).1).size : Int) then key_byBytes.l0 k x5 x6 (wrap64 (x7 + 1)) (mput o4 (bt ((rdE e_SS x5 x7).1) 0) ((rdE e_SS x5 x7).2)) else Option.none) else Option.none) else Option.none) else Option.some o4)
def key_byBytes.f (k : Nat) : Option ((List (Int × ByteArray))) := ((key_Codes.f k ).bind fun r1 => key_byBytes.l0 k r1 (r1.length : Int) 0 ([] : List (Int × ByteArray)))
theorem key_byBytes.loops : ∀ k, (∀ (x5 : List (ByteArray × ByteArray)) (x6 : Int) (x7 : Int) (o4 : List (Int × ByteArray)), RS (fam Tryz.f64 [] [] [] (fun r : (List (Int × ByteArray)) => .omap 4) (fun r => [(4, mapE (KL.ints .u8) (ByteArray.empty : ByteArray) AV.str r)])) (Func.head Tryz.f64 0) ⟨ofT [(1, .omap 4), (5, sq e_SS x5), (6, .int .i64 x6), (7, .int .i64 x7)], ofL [(4, mapE (KL.ints .u8) (ByteArray.empty : ByteArray) AV.str o4)]⟩ (key_byBytes.l0 k x5 x6 x7 o4))
  | 0 => by intro _ _ _ _; simp only [key_byBytes.l0]; exact RS.none
  | k + 1 => by
    have ih := key_byBytes.loops k
    · intro x5 x6 x7 o4
      simp only [key_byBytes.l0]
      refine RS.go ?_
      refine RT.br rfl (fun c5 => ?_) (fun c5 => ?_)
      · refine RT.br rfl (fun c2 => ?_) (fun c2 => RT.none)
        refine RT.br rfl (fun c3 => ?_) (fun c3 => RT.none)
        refine RT.goto rfl ?_
        refine RS.draw rfl ?_
        refine RD.brT rfl ?_
        refine RD.br rfl (fun c4 => ?_) (fun c4 => RD.none)
        refine RD.fin key_byBytes.k0 key_byBytes.k1 rfl rfl (by decide +kernel) ?_
        refine RS.obj 4 (mapE (KL.ints .u8) (ByteArray.empty : ByteArray) AV.str (mput o4 (bt ((rdE e_SS x5 x7).1) 0) ((rdE e_SS x5 x7).2))) ⟨_, rfl, LeO.putI⟩ ?_
        refine RS.go ?_
        refine RT.goto rfl ?_
        refine RS.weak [(1, .omap 4), (5, sq e_SS x5), (6, .int .i64 x6), (7, .int .i64 (wrap64 (x7 + 1)))] [(4, mapE (KL.ints .u8) (ByteArray.empty : ByteArray) AV.str (mput o4 (bt ((rdE e_SS x5 x7).1) 0) ((rdE e_SS x5 x7).2)))] ⟨Le.eq (by first | rfl | simp), Le.eq (by first | rfl | simp), Le.eq (by first | rfl | simp), Le.eq (by first | rfl | simp), trivial⟩ ⟨⟨_, rfl, LeO.refl _⟩, trivial⟩ rfl (dom0 rfl) ?_
        exact ih x5 x6 (wrap64 (x7 + 1)) (mput o4 (bt ((rdE e_SS x5 x7).1) 0) ((rdE e_SS x5 x7).2)) 
      · exact RT.done rfl rfl (Le.refl _) ⟨⟨_, rfl, LeO.refl _⟩, trivial⟩ rfl (dom0 rfl)
theorem key_byBytes.ok (k : Nat) (r : (List (Int × ByteArray))) (h : key_byBytes.f k  = some r) : Ct Tryz.prog B 64 [] (ofL []) (.omap 4) (ofL [(4, mapE (KL.ints .u8) (ByteArray.empty : ByteArray) AV.str r)]) := by
  refine Ct.of (Y := (fam Tryz.f64 [] [] [] (fun r : (List (Int × ByteArray)) => .omap 4) (fun r => [(4, mapE (KL.ints .u8) (ByteArray.empty : ByteArray) AV.str r)]))) Tryz.func64 rfl Tryz.call64 rfl rfl ?_ r h
  unfold key_byBytes.f
  refine RS.go ?_
  refine RT.call0 rfl (fun _ h => key_Codes.ok k  _ h) (LeL.eq rfl) (fun _ => rfl) (fun r1 => ?_)
  refine RS.go ?_
  refine RT.goto rfl ?_
  refine RS.weak [(1, .omap 4), (5, sq e_SS r1), (6, .int .i64 (r1.length : Int)), (7, .int .i64 0)] [(4, mapE (KL.ints .u8) (ByteArray.empty : ByteArray) AV.str ([] : List (Int × ByteArray)))] ⟨Le.eq (by first | rfl | simp), Le.eq (by first | rfl | simp), Le.eq (by first | rfl | simp), Le.eq (by first | rfl | simp), trivial⟩ ⟨⟨_, rfl, LeO.refl _⟩, trivial⟩ rfl (dom0 rfl) ?_
  exact key_byBytes.loops k r1 (r1.length : Int) 0 ([] : List (Int × ByteArray)) 
/-! ### key_CheckSaid: function 54 -/
mutual
def key_CheckSaid.l1 : Nat → List ByteArray → Int → Int → List (Int × ByteArray) → Int → Option (Int)
  | 0, _, _, _, _, _ => Option.none
  | k + 1, x20, x21, x22, o19, x28b => (if x28b < ((rdE eS x20 x22).size : Int) then (if 0 ≤ x28b then (if x28b < ((rdE eS x20 x22).size : Int) then (if (mget (ByteArray.empty : ByteArray) o19 (bt (rdE eS x20 x22) x28b)) = (⟨#[]⟩ : ByteArray) then Option.some 3 else key_CheckSaid.l1 k x20 x21 x22 o19 (wrap64 (x28b + 1))) else Option.none) else Option.none) else key_CheckSaid.l0 k x20 x21 (wrap64 (x22 + 1)) o19)
def key_CheckSaid.l0 : Nat → List ByteArray → Int → Int → List (Int × ByteArray) → Option (Int)
  | 0, _, _, _, _ => Option.none
  | k + 1, x20, x21, x22, o19 => (if x22 < x21 then (if 0 ≤ x22 then (if x22 < (x20.length : Int) then key_CheckSaid.l1 k x20 x21 x22 o19 0 else Option.none) else Option.none) else Option.some 0)
end
def key_CheckSaid.f (k : Nat) (a0 : ByteArray) : Option (Int) := (if (a0.size : Int) > 500 then Option.some 2 else ((kit_Words.f k a0).bind fun r1 => (if r1.2 = true then ((key_byBytes.f k ).bind fun r2 => key_CheckSaid.l0 k r1.1 (r1.1.length : Int) 0 r2) else Option.some 3)))
theorem key_CheckSaid.loops : ∀ k, (∀ (x20 : List ByteArray) (x21 : Int) (x22 : Int) (o19 : List (Int × ByteArray)) (x28b : Int), RS (fam Tryz.f54 [] [] [] (fun r : Int => .int .i64 r) (fun r => [])) (Func.head Tryz.f54 1) ⟨ofT [(5, .omap 19), (7, .str (rdE eS x20 x22)), (20, sq eS x20), (21, .int .i64 x21), (22, .int .i64 x22), (27, .int .i64 ((rdE eS x20 x22).size : Int)), (28, .int .i64 x28b)], ofL [(19, mapE (KL.ints .u8) (ByteArray.empty : ByteArray) AV.str o19)]⟩ (key_CheckSaid.l1 k x20 x21 x22 o19 x28b)) ∧ (∀ (x20 : List ByteArray) (x21 : Int) (x22 : Int) (o19 : List (Int × ByteArray)), RS (fam Tryz.f54 [] [] [] (fun r : Int => .int .i64 r) (fun r => [])) (Func.head Tryz.f54 0) ⟨ofT [(5, .omap 19), (20, sq eS x20), (21, .int .i64 x21), (22, .int .i64 x22)], ofL [(19, mapE (KL.ints .u8) (ByteArray.empty : ByteArray) AV.str o19)]⟩ (key_CheckSaid.l0 k x20 x21 x22 o19))
  | 0 => ⟨by intro _ _ _ _ _; simp only [key_CheckSaid.l1]; exact RS.none, by intro _ _ _ _; simp only [key_CheckSaid.l0]; exact RS.none⟩
  | k + 1 => by
    have ih := key_CheckSaid.loops k
    refine ⟨?_, ?_⟩
    · intro x20 x21 x22 o19 x28b
      simp only [key_CheckSaid.l1]
      refine RS.go ?_
      refine RT.br rfl (fun c8 => ?_) (fun c8 => ?_)
      · refine RT.br rfl (fun c5 => ?_) (fun c5 => RT.none)
        refine RT.br rfl (fun c6 => ?_) (fun c6 => RT.none)
        refine RT.req rfl (congrArg AV.str (map_end (l := o19) (d := (ByteArray.empty : ByteArray)))) ?_
        refine RT.br rfl (fun c7 => ?_) (fun c7 => ?_)
        · exact RT.done rfl rfl (Le.refl _) trivial rfl (dom0 rfl)
        · refine RT.goto rfl ?_
          refine RS.weak [(5, .omap 19), (7, .str (rdE eS x20 x22)), (20, sq eS x20), (21, .int .i64 x21), (22, .int .i64 x22), (27, .int .i64 ((rdE eS x20 x22).size : Int)), (28, .int .i64 (wrap64 (x28b + 1)))] [(19, mapE (KL.ints .u8) (ByteArray.empty : ByteArray) AV.str o19)] ⟨Le.eq (by first | rfl | simp), Le.eq (by first | rfl | simp), Le.eq (by first | rfl | simp), Le.eq (by first | rfl | simp), Le.eq (by first | rfl | simp), Le.eq (by first | rfl | simp), Le.eq (by first | rfl | simp), trivial⟩ ⟨⟨_, rfl, LeO.refl _⟩, trivial⟩ rfl (dom0 rfl) ?_
          exact ih.1 x20 x21 x22 o19 (wrap64 (x28b + 1)) 
      · refine RT.goto rfl ?_
        refine RS.weak [(5, .omap 19), (20, sq eS x20), (21, .int .i64 x21), (22, .int .i64 (wrap64 (x22 + 1)))] [(19, mapE (KL.ints .u8) (ByteArray.empty : ByteArray) AV.str o19)] ⟨Le.eq (by first | rfl | simp), Le.eq (by first | rfl | simp), Le.eq (by first | rfl | simp), Le.eq (by first | rfl | simp), trivial⟩ ⟨⟨_, rfl, LeO.refl _⟩, trivial⟩ rfl (dom0 rfl) ?_
        exact ih.2 x20 x21 (wrap64 (x22 + 1)) o19 
    · intro x20 x21 x22 o19
      simp only [key_CheckSaid.l0]
      refine RS.go ?_
      refine RT.br rfl (fun c9 => ?_) (fun c9 => ?_)
      · refine RT.br rfl (fun c3 => ?_) (fun c3 => RT.none)
        refine RT.br rfl (fun c4 => ?_) (fun c4 => RT.none)
        refine RT.goto rfl ?_
        refine RS.weak [(5, .omap 19), (7, .str (rdE eS x20 x22)), (20, sq eS x20), (21, .int .i64 x21), (22, .int .i64 x22), (27, .int .i64 ((rdE eS x20 x22).size : Int)), (28, .int .i64 0)] [(19, mapE (KL.ints .u8) (ByteArray.empty : ByteArray) AV.str o19)] ⟨Le.eq (by first | rfl | simp), Le.eq (by first | rfl | simp), Le.eq (by first | rfl | simp), Le.eq (by first | rfl | simp), Le.eq (by first | rfl | simp), Le.eq (by first | rfl | simp), Le.eq (by first | rfl | simp), trivial⟩ ⟨⟨_, rfl, LeO.refl _⟩, trivial⟩ rfl (dom0 rfl) ?_
        exact ih.1 x20 x21 x22 o19 0 
      · exact RT.done rfl rfl (Le.refl _) trivial rfl (dom0 rfl)
theorem key_CheckSaid.ok (k : Nat) (a0 : ByteArray) (r : Int) (h : key_CheckSaid.f k a0 = some r) : Ct Tryz.prog B 54 [.str a0] (ofL []) (.int .i64 r) (ofL []) := by
  refine Ct.of (Y := (fam Tryz.f54 [] [] [] (fun r : Int => .int .i64 r) (fun r => []))) Tryz.func54 rfl Tryz.call54 rfl rfl ?_ r h
  unfold key_CheckSaid.f
  refine RS.go ?_
  refine RT.br rfl (fun c11 => ?_) (fun c11 => ?_)
  · exact RT.done rfl rfl (Le.refl _) trivial rfl (dom0 rfl)
  · refine RT.call0 rfl (fun _ h => kit_Words.ok k a0 _ h) (LeL.eq rfl) (fun _ => rfl) (fun r1 => ?_)
    refine RS.go ?_
    refine RT.brBN rfl (fun c10 => ?_) (fun c10 => ?_)
    · refine RT.call rfl (fun _ h => key_byBytes.ok k  _ h) (fun i => bif Nat.beq i 4 then 19 else i) (LeL.eq rfl) trivial (fun _ => rfl) (fun r2 => ?_)
      refine RS.go ?_
      refine RT.goto rfl ?_
      refine RS.weak [(5, .omap 19), (20, sq eS r1.1), (21, .int .i64 (r1.1.length : Int)), (22, .int .i64 0)] [(19, mapE (KL.ints .u8) (ByteArray.empty : ByteArray) AV.str r2)] ⟨Le.eq (by first | rfl | simp), Le.eq (by first | rfl | simp), Le.eq (by first | rfl | simp), Le.eq (by first | rfl | simp), trivial⟩ ⟨⟨_, rfl, LeO.refl _⟩, trivial⟩ rfl (dom0 rfl) ?_
      exact (key_CheckSaid.loops k).2 r1.1 (r1.1.length : Int) 0 r2 
    · exact RT.done rfl rfl (Le.refl _) trivial rfl (dom0 rfl)
/-! ### kit_Outside: function 55 -/
def kit_Outside.f (a0 : Int) (a1 : Int) (a2 : Int) : Option (Bool) := (if a0 < a1 then Option.some true else Option.some (decide (a0 > a2)))
theorem kit_Outside.ok (a0 : Int) (a1 : Int) (a2 : Int) (r : Bool) (h : kit_Outside.f a0 a1 a2 = some r) : Ct Tryz.prog B 55 [.int .i64 a0, .int .i64 a1, .int .i64 a2] (ofL []) (.bool r) (ofL []) := by
  refine Ct.of (Y := (fam Tryz.f55 [] [] [] (fun r : Bool => .bool r) (fun r => []))) Tryz.func55 rfl Tryz.call55 rfl rfl ?_ r h
  unfold kit_Outside.f
  refine RS.go ?_
  refine RT.br rfl (fun c1 => ?_) (fun c1 => ?_)
  · refine RT.brT rfl ?_
    refine RT.brT rfl ?_
    refine RT.brT rfl ?_
    exact RT.done rfl rfl (Le.refl _) trivial rfl (dom0 rfl)
  · refine RT.brF rfl ?_
    refine RT.brF rfl ?_
    refine RT.brF rfl ?_
    exact RT.done rfl rfl (Le.refl _) trivial rfl (dom0 rfl)
/-! ### key_words: function 85 -/
mutual
def key_words.l1 : Nat → List ByteArray → Int → Int → List (List ByteArray) → List (Int × ByteArray) → Int → List ByteArray → Option ((List (List ByteArray)))
  | 0, _, _, _, _, _, _, _ => Option.none
  | k + 1, x11, x12, x13, o4, o9, x19b, o7b => (if x19b < ((rdE eS x11 x13).size : Int) then (if 0 ≤ x19b then (if x19b < ((rdE eS x11 x13).size : Int) then (if o7b.length + 1 ≤ 549755813888 then key_words.l1 k x11 x12 x13 o4 o9 (wrap64 (x19b + 1)) (o7b ++ [(mget (ByteArray.empty : ByteArray) o9 (bt (rdE eS x11 x13) x19b))]) else Option.none) else Option.none) else Option.none) else (if o4.length + 1 ≤ 549755813888 then key_words.l0 k x11 x12 (wrap64 (x13 + 1)) (o4 ++ [o7b]) o9 else Option.none))
def key_words.l0 : Nat → List ByteArray → Int → Int → List (List ByteArray) → List (Int × ByteArray) → Option ((List (List ByteArray)))
  | 0, _, _, _, _, _ => Option.none
  | k + 1, x11, x12, x13, o4, o9 => (if x13 < x12 then (if 0 ≤ x13 then (if x13 < (x11.length : Int) then key_words.l1 k x11 x12 x13 o4 o9 0 [] else Option.none) else Option.none) else Option.some o4)
end
def key_words.f (k : Nat) (a0 : ByteArray) : Option ((List (List ByteArray))) := ((key_byBytes.f k ).bind fun r1 => ((strings_Split.f a0 (⟨#[32]⟩ : ByteArray)).bind fun r2 => key_words.l0 k r2 (r2.length : Int) 0 [] r1))
theorem key_words.loops : ∀ k, (∀ (x11 : List ByteArray) (x12 : Int) (x13 : Int) (o4 : List (List ByteArray)) (o9 : List (Int × ByteArray)) (x19b : Int) (o7b : List ByteArray), RS (fam Tryz.f85 [12] [] [] (fun r : (List (List ByteArray)) => sq e_L r) (fun r => [])) (Func.head Tryz.f85 1) ⟨ofT [(3, .omap 9), (4, .osl 4 e_L.w 0 o4.length o4.length), (6, .str (rdE eS x11 x13)), (7, .osl 7 eS.w 0 o7b.length o7b.length), (11, sq eS x11), (12, .int .i64 x12), (13, .int .i64 x13), (18, .int .i64 ((rdE eS x11 x13).size : Int)), (19, .int .i64 x19b)], ofL [(4, bufE e_L o4), (7, bufE eS o7b), (9, mapE (KL.ints .u8) (ByteArray.empty : ByteArray) AV.str o9)]⟩ (key_words.l1 k x11 x12 x13 o4 o9 x19b o7b)) ∧ (∀ (x11 : List ByteArray) (x12 : Int) (x13 : Int) (o4 : List (List ByteArray)) (o9 : List (Int × ByteArray)), RS (fam Tryz.f85 [12] [] [] (fun r : (List (List ByteArray)) => sq e_L r) (fun r => [])) (Func.head Tryz.f85 0) ⟨ofT [(3, .omap 9), (4, .osl 4 e_L.w 0 o4.length o4.length), (11, sq eS x11), (12, .int .i64 x12), (13, .int .i64 x13)], ofL [(4, bufE e_L o4), (9, mapE (KL.ints .u8) (ByteArray.empty : ByteArray) AV.str o9)]⟩ (key_words.l0 k x11 x12 x13 o4 o9))
  | 0 => ⟨by intro _ _ _ _ _ _ _; simp only [key_words.l1]; exact RS.none, by intro _ _ _ _ _; simp only [key_words.l0]; exact RS.none⟩
  | k + 1 => by
    have ih := key_words.loops k
    refine ⟨?_, ?_⟩
    · intro x11 x12 x13 o4 o9 x19b o7b
      simp only [key_words.l1]
      refine RS.go ?_
      refine RT.br rfl (fun c9 => ?_) (fun c9 => ?_)
      · refine RT.br rfl (fun c5 => ?_) (fun c5 => RT.none)
        refine RT.br rfl (fun c6 => ?_) (fun c6 => RT.none)
        refine RT.req rfl (congrArg AV.str (map_end (l := o9) (d := (ByteArray.empty : ByteArray)))) ?_
        refine RT.goto rfl ?_
        refine RS.slot 28 (sq eS [(mget (ByteArray.empty : ByteArray) o9 (bt (rdE eS x11 x13) x19b))]) (Le.lit (E := eS) (l := [(mget (ByteArray.empty : ByteArray) o9 (bt (rdE eS x11 x13) x19b))]) (cells_of rfl)) ?_
        refine RS.go ?_
        refine RT.req rfl ⟨by first | rfl | simp, by first | exact Nat.le_refl _ | simp⟩ ?_
        refine RT.not rfl (by simp <;> omega) ?_
        refine RT.br rfl (fun c7 => ?_) (fun _ => RT.none)
        refine RT.goto rfl ?_
        refine RS.obj 7 (bufE eS (o7b ++ [(mget (ByteArray.empty : ByteArray) o9 (bt (rdE eS x11 x13) x19b))])) ⟨_, rfl, LeO.app (l := o7b) (m := [(mget (ByteArray.empty : ByteArray) o9 (bt (rdE eS x11 x13) x19b))]) fun _ _ _ _ => rfl⟩ ?_
        refine RS.slot 29 (.osl 7 eS.w 0 (o7b ++ [(mget (ByteArray.empty : ByteArray) o9 (bt (rdE eS x11 x13) x19b))]).length (o7b ++ [(mget (ByteArray.empty : ByteArray) o9 (bt (rdE eS x11 x13) x19b))]).length) (by first | exact Le.oslN rfl (by simp) | exact Le.trans (y := .osl 7 eS.w 0 (o7b.length + 1) (o7b.length + 1)) (Le.refl _) (Le.oslN rfl (by simp))) ?_
        refine RS.go ?_
        refine RT.goto rfl ?_
        refine RS.weak [(3, .omap 9), (4, .osl 4 e_L.w 0 o4.length o4.length), (6, .str (rdE eS x11 x13)), (7, .osl 7 eS.w 0 (o7b ++ [(mget (ByteArray.empty : ByteArray) o9 (bt (rdE eS x11 x13) x19b))]).length (o7b ++ [(mget (ByteArray.empty : ByteArray) o9 (bt (rdE eS x11 x13) x19b))]).length), (11, sq eS x11), (12, .int .i64 x12), (13, .int .i64 x13), (18, .int .i64 ((rdE eS x11 x13).size : Int)), (19, .int .i64 (wrap64 (x19b + 1)))] [(4, bufE e_L o4), (7, bufE eS (o7b ++ [(mget (ByteArray.empty : ByteArray) o9 (bt (rdE eS x11 x13) x19b))])), (9, mapE (KL.ints .u8) (ByteArray.empty : ByteArray) AV.str o9)] ⟨Le.eq (by first | rfl | simp), (by first | exact Le.oslN rfl (by first | rfl | simp) | exact Le.refl _ | exact Le.eq (by first | rfl | simp)), Le.eq (by first | rfl | simp), (by first | exact Le.oslN rfl (by first | rfl | simp) | exact Le.refl _ | exact Le.eq (by first | rfl | simp)), Le.eq (by first | rfl | simp), Le.eq (by first | rfl | simp), Le.eq (by first | rfl | simp), Le.eq (by first | rfl | simp), Le.eq (by first | rfl | simp), trivial⟩ ⟨⟨_, rfl, LeO.refl _⟩, ⟨_, rfl, LeO.refl _⟩, ⟨_, rfl, LeO.refl _⟩, trivial⟩ rfl (dom0 rfl) ?_
        exact ih.1 x11 x12 x13 o4 o9 (wrap64 (x19b + 1)) (o7b ++ [(mget (ByteArray.empty : ByteArray) o9 (bt (rdE eS x11 x13) x19b))]) 
      · refine RT.goto rfl ?_
        refine RS.freeze 7 _ _ _ [(3, .omap 9), (4, .osl 4 e_L.w 0 o4.length o4.length), (7, sq eS o7b), (11, sq eS x11), (12, .int .i64 x12), (13, .int .i64 x13)] [(4, bufE e_L o4), (9, mapE (KL.ints .u8) (ByteArray.empty : ByteArray) AV.str o9)] rfl ⟨.inl (Le.refl _), .inl (Le.refl _), .inr ⟨_, rfl, by first | exact Nat.le_refl _ | simp, rfl⟩, .inl (Le.refl _), .inl (Le.refl _), .inl (Le.refl _), trivial⟩ ⟨⟨_, rfl, LeO.refl _⟩, ⟨_, rfl, LeO.refl _⟩, trivial⟩ rfl (dom0 rfl) ?_
        refine RS.region ?_
        refine RS.go ?_
        refine RT.goto rfl ?_
        refine RS.slot 33 (sq e_L [o7b]) (Le.lit (E := e_L) (l := [o7b]) (cells_of rfl)) ?_
        refine RS.go ?_
        refine RT.req rfl ⟨by first | rfl | simp, by first | exact Nat.le_refl _ | simp⟩ ?_
        refine RT.not rfl (by simp <;> omega) ?_
        refine RT.br rfl (fun c8 => ?_) (fun _ => RT.none)
        refine RT.goto rfl ?_
        refine RS.obj 4 (bufE e_L (o4 ++ [o7b])) ⟨_, rfl, LeO.app (l := o4) (m := [o7b]) fun _ _ _ _ => rfl⟩ ?_
        refine RS.slot 34 (.osl 4 e_L.w 0 (o4 ++ [o7b]).length (o4 ++ [o7b]).length) (by first | exact Le.oslN rfl (by simp) | exact Le.trans (y := .osl 4 e_L.w 0 (o4.length + 1) (o4.length + 1)) (Le.refl _) (Le.oslN rfl (by simp))) ?_
        refine RS.go ?_
        refine RT.goto rfl ?_
        refine RS.weak [(3, .omap 9), (4, .osl 4 e_L.w 0 (o4 ++ [o7b]).length (o4 ++ [o7b]).length), (11, sq eS x11), (12, .int .i64 x12), (13, .int .i64 (wrap64 (x13 + 1)))] [(4, bufE e_L (o4 ++ [o7b])), (9, mapE (KL.ints .u8) (ByteArray.empty : ByteArray) AV.str o9)] ⟨Le.eq (by first | rfl | simp), (by first | exact Le.oslN rfl (by first | rfl | simp) | exact Le.refl _ | exact Le.eq (by first | rfl | simp)), Le.eq (by first | rfl | simp), Le.eq (by first | rfl | simp), Le.eq (by first | rfl | simp), trivial⟩ ⟨⟨_, rfl, LeO.refl _⟩, ⟨_, rfl, LeO.refl _⟩, trivial⟩ rfl (dom0 rfl) ?_
        exact ih.2 x11 x12 (wrap64 (x13 + 1)) (o4 ++ [o7b]) o9 
    · intro x11 x12 x13 o4 o9
      simp only [key_words.l0]
      refine RS.go ?_
      refine RT.br rfl (fun c10 => ?_) (fun c10 => ?_)
      · refine RT.br rfl (fun c3 => ?_) (fun c3 => RT.none)
        refine RT.br rfl (fun c4 => ?_) (fun c4 => RT.none)
        refine RT.goto rfl ?_
        refine RS.ghost 7 7 eS.w (rep eS []) rfl rfl ?_
        refine RS.weak [(3, .omap 9), (4, .osl 4 e_L.w 0 o4.length o4.length), (6, .str (rdE eS x11 x13)), (7, .osl 7 eS.w 0 ([] : List ByteArray).length ([] : List ByteArray).length), (11, sq eS x11), (12, .int .i64 x12), (13, .int .i64 x13), (18, .int .i64 ((rdE eS x11 x13).size : Int)), (19, .int .i64 0)] [(4, bufE e_L o4), (7, bufE eS ([] : List ByteArray)), (9, mapE (KL.ints .u8) (ByteArray.empty : ByteArray) AV.str o9)] ⟨Le.eq (by first | rfl | simp), (by first | exact Le.oslN rfl (by first | rfl | simp) | exact Le.refl _ | exact Le.eq (by first | rfl | simp)), Le.eq (by first | rfl | simp), (by first | exact Le.oslN rfl (by first | rfl | simp) | exact Le.refl _ | exact Le.eq (by first | rfl | simp)), Le.eq (by first | rfl | simp), Le.eq (by first | rfl | simp), Le.eq (by first | rfl | simp), Le.eq (by first | rfl | simp), Le.eq (by first | rfl | simp), trivial⟩ ⟨⟨_, rfl, LeO.refl _⟩, ⟨_, rfl, LeO.refl _⟩, ⟨_, rfl, LeO.refl _⟩, trivial⟩ rfl (dom0 rfl) ?_
        exact ih.1 x11 x12 x13 o4 o9 0 [] 
      · refine RT.freeze 4 _ _ _ [(2, sq e_L o4)] [] rfl rfl ⟨.inr ⟨_, rfl, by first | exact Nat.le_refl _ | simp, rfl⟩, trivial⟩ trivial rfl (dom0 rfl) ?_
        exact RT.done rfl rfl (Le.refl _) trivial rfl (dom0 rfl)
theorem key_words.ok (k : Nat) (a0 : ByteArray) (r : (List (List ByteArray))) (h : key_words.f k a0 = some r) : Ct Tryz.prog B 85 [.str a0] (ofL []) (sq e_L r) (ofL []) := by
  refine Ct.of (Y := (fam Tryz.f85 [12] [] [] (fun r : (List (List ByteArray)) => sq e_L r) (fun r => []))) Tryz.func85 rfl Tryz.call85 rfl rfl ?_ r h
  unfold key_words.f
  refine RS.go ?_
  refine RT.call rfl (fun _ h => key_byBytes.ok k  _ h) (fun i => bif Nat.beq i 4 then 9 else i) (LeL.eq rfl) trivial (fun _ => rfl) (fun r1 => ?_)
  refine RS.go ?_
  refine RT.call0 rfl (fun _ h => strings_Split.ok a0 (⟨#[32]⟩ : ByteArray) _ h) (LeL.eq rfl) (fun _ => rfl) (fun r2 => ?_)
  refine RS.go ?_
  refine RT.goto rfl ?_
  refine RS.ghost 4 4 e_L.w (rep e_L []) rfl rfl ?_
  refine RS.weak [(3, .omap 9), (4, .osl 4 e_L.w 0 ([] : List (List ByteArray)).length ([] : List (List ByteArray)).length), (11, sq eS r2), (12, .int .i64 (r2.length : Int)), (13, .int .i64 0)] [(4, bufE e_L ([] : List (List ByteArray))), (9, mapE (KL.ints .u8) (ByteArray.empty : ByteArray) AV.str r1)] ⟨Le.eq (by first | rfl | simp), (by first | exact Le.oslN rfl (by first | rfl | simp) | exact Le.refl _ | exact Le.eq (by first | rfl | simp)), Le.eq (by first | rfl | simp), Le.eq (by first | rfl | simp), Le.eq (by first | rfl | simp), trivial⟩ ⟨⟨_, rfl, LeO.refl _⟩, ⟨_, rfl, LeO.refl _⟩, trivial⟩ rfl (dom0 rfl) ?_
  exact (key_words.loops k).2 r2 (r2.length : Int) 0 [] r1 
/-! ### key_lengths: function 56 -/
mutual
def key_lengths.j20 : Nat → Int → Int → List (List ByteArray) → Int → Int → Int → Int → List Int → Int → Option ((List Int))
  | 0, _, _, _, _, _, _, _, _, _ => Option.none
  | k + 1, a1, a2, x15, x16, x17, x31b, x45c, o7j17, x13j20 => (if o7j17.length + 1 ≤ 549755813888 then key_lengths.l2 k a1 a2 x15 x16 x17 x31b (wrap64 (x45c + 1)) (o7j17 ++ [x13j20]) else Option.none)
def key_lengths.j17 : Nat → Int → Int → List (List ByteArray) → Int → Int → Int → Int → List Int → Option ((List Int))
  | 0, _, _, _, _, _, _, _, _ => Option.none
  | k + 1, a1, a2, x15, x16, x17, x31b, x45c, o7j17 => (if 0 ≤ x45c then (if x45c < ((rdE eS (rdE e_L x15 x17) x31b).size : Int) then (if bt (rdE eS (rdE e_L x15 x17) x31b) x45c = 45 then key_lengths.j20 k a1 a2 x15 x16 x17 x31b x45c o7j17 (wrap64 (a1 * 3)) else key_lengths.j20 k a1 a2 x15 x16 x17 x31b x45c o7j17 a1) else Option.none) else Option.none)
def key_lengths.l2 : Nat → Int → Int → List (List ByteArray) → Int → Int → Int → Int → List Int → Option ((List Int))
  | 0, _, _, _, _, _, _, _, _ => Option.none
  | k + 1, a1, a2, x15, x16, x17, x31b, x45c, o7c => (if x45c < ((rdE eS (rdE e_L x15 x17) x31b).size : Int) then (if x45c > 0 then (if o7c.length + 1 ≤ 549755813888 then key_lengths.j17 k a1 a2 x15 x16 x17 x31b x45c (o7c ++ [a1]) else Option.none) else key_lengths.j17 k a1 a2 x15 x16 x17 x31b x45c o7c) else key_lengths.l1 k a1 a2 x15 x16 x17 (wrap64 (x31b + 1)) o7c)
def key_lengths.j12 : Nat → Int → Int → List (List ByteArray) → Int → Int → Int → List Int → Option ((List Int))
  | 0, _, _, _, _, _, _, _ => Option.none
  | k + 1, a1, a2, x15, x16, x17, x31b, o7j12 => key_lengths.l2 k a1 a2 x15 x16 x17 x31b 0 o7j12
def key_lengths.l1 : Nat → Int → Int → List (List ByteArray) → Int → Int → Int → List Int → Option ((List Int))
  | 0, _, _, _, _, _, _, _ => Option.none
  | k + 1, a1, a2, x15, x16, x17, x31b, o7b => (if x31b < ((rdE e_L x15 x17).length : Int) then (if 0 ≤ x31b then (if x31b < ((rdE e_L x15 x17).length : Int) then (if x31b > 0 then (if o7b.length + 1 ≤ 549755813888 then key_lengths.j12 k a1 a2 x15 x16 x17 x31b (o7b ++ [wrap64 (3 * a2)]) else Option.none) else key_lengths.j12 k a1 a2 x15 x16 x17 x31b o7b) else Option.none) else Option.none) else key_lengths.l0 k a1 a2 x15 x16 (wrap64 (x17 + 1)) o7b)
def key_lengths.j7 : Nat → Int → Int → List (List ByteArray) → Int → Int → List Int → Option ((List Int))
  | 0, _, _, _, _, _, _ => Option.none
  | k + 1, a1, a2, x15, x16, x17, o7j7 => key_lengths.l1 k a1 a2 x15 x16 x17 0 o7j7
def key_lengths.l0 : Nat → Int → Int → List (List ByteArray) → Int → Int → List Int → Option ((List Int))
  | 0, _, _, _, _, _, _ => Option.none
  | k + 1, a1, a2, x15, x16, x17, o7 => (if x17 < x16 then (if 0 ≤ x17 then (if x17 < (x15.length : Int) then (if x17 > 0 then (if o7.length + 1 ≤ 549755813888 then key_lengths.j7 k a1 a2 x15 x16 x17 (o7 ++ [wrap64 (7 * a2)]) else Option.none) else key_lengths.j7 k a1 a2 x15 x16 x17 o7) else Option.none) else Option.none) else Option.some o7)
end
def key_lengths.f (k : Nat) (a0 : ByteArray) (a1 : Int) (a2 : Int) : Option ((List Int)) := ((key_words.f k a0).bind fun r1 => key_lengths.l0 k a1 a2 r1 (r1.length : Int) 0 [])
theorem key_lengths.loops : ∀ k, (∀ (a1 : Int) (a2 : Int) (x15 : List (List ByteArray)) (x16 : Int) (x17 : Int) (x31b : Int) (x45c : Int) (o7j17 : List Int) (x13j20 : Int), RS (fam Tryz.f56 [7, 12, 17, 20] [] [] (fun r : (List Int) => sq eI r) (fun r => [])) (Func.reg Tryz.f56 20) ⟨ofT [(1, .int .i64 a1), (2, .int .i64 a2), (7, .osl 7 eI.w 0 o7j17.length o7j17.length), (11, .str (rdE eS (rdE e_L x15 x17) x31b)), (13, .int .i64 x13j20), (15, sq e_L x15), (16, .int .i64 x16), (17, .int .i64 x17), (29, sq eS (rdE e_L x15 x17)), (30, .int .i64 ((rdE e_L x15 x17).length : Int)), (31, .int .i64 x31b), (44, .int .i64 ((rdE eS (rdE e_L x15 x17) x31b).size : Int)), (45, .int .i64 x45c)], ofL [(7, bufE eI o7j17)]⟩ (key_lengths.j20 k a1 a2 x15 x16 x17 x31b x45c o7j17 x13j20)) ∧ (∀ (a1 : Int) (a2 : Int) (x15 : List (List ByteArray)) (x16 : Int) (x17 : Int) (x31b : Int) (x45c : Int) (o7j17 : List Int), RS (fam Tryz.f56 [7, 12, 17, 20] [] [] (fun r : (List Int) => sq eI r) (fun r => [])) (Func.reg Tryz.f56 17) ⟨ofT [(1, .int .i64 a1), (2, .int .i64 a2), (7, .osl 7 eI.w 0 o7j17.length o7j17.length), (11, .str (rdE eS (rdE e_L x15 x17) x31b)), (12, .int .i64 x45c), (15, sq e_L x15), (16, .int .i64 x16), (17, .int .i64 x17), (29, sq eS (rdE e_L x15 x17)), (30, .int .i64 ((rdE e_L x15 x17).length : Int)), (31, .int .i64 x31b), (44, .int .i64 ((rdE eS (rdE e_L x15 x17) x31b).size : Int)), (45, .int .i64 x45c)], ofL [(7, bufE eI o7j17)]⟩ (key_lengths.j17 k a1 a2 x15 x16 x17 x31b x45c o7j17)) ∧ (∀ (a1 : Int) (a2 : Int) (x15 : List (List ByteArray)) (x16 : Int) (x17 : Int) (x31b : Int) (x45c : Int) (o7c : List Int), RS (fam Tryz.f56 [7, 12, 17, 20] [] [] (fun r : (List Int) => sq eI r) (fun r => [])) (Func.head Tryz.f56 2) ⟨ofT [(1, .int .i64 a1), (2, .int .i64 a2), (7, .osl 7 eI.w 0 o7c.length o7c.length), (11, .str (rdE eS (rdE e_L x15 x17) x31b)), (15, sq e_L x15), (16, .int .i64 x16), (17, .int .i64 x17), (29, sq eS (rdE e_L x15 x17)), (30, .int .i64 ((rdE e_L x15 x17).length : Int)), (31, .int .i64 x31b), (44, .int .i64 ((rdE eS (rdE e_L x15 x17) x31b).size : Int)), (45, .int .i64 x45c)], ofL [(7, bufE eI o7c)]⟩ (key_lengths.l2 k a1 a2 x15 x16 x17 x31b x45c o7c)) ∧ (∀ (a1 : Int) (a2 : Int) (x15 : List (List ByteArray)) (x16 : Int) (x17 : Int) (x31b : Int) (o7j12 : List Int), RS (fam Tryz.f56 [7, 12, 17, 20] [] [] (fun r : (List Int) => sq eI r) (fun r => [])) (Func.reg Tryz.f56 12) ⟨ofT [(1, .int .i64 a1), (2, .int .i64 a2), (7, .osl 7 eI.w 0 o7j12.length o7j12.length), (11, .str (rdE eS (rdE e_L x15 x17) x31b)), (15, sq e_L x15), (16, .int .i64 x16), (17, .int .i64 x17), (29, sq eS (rdE e_L x15 x17)), (30, .int .i64 ((rdE e_L x15 x17).length : Int)), (31, .int .i64 x31b)], ofL [(7, bufE eI o7j12)]⟩ (key_lengths.j12 k a1 a2 x15 x16 x17 x31b o7j12)) ∧ (∀ (a1 : Int) (a2 : Int) (x15 : List (List ByteArray)) (x16 : Int) (x17 : Int) (x31b : Int) (o7b : List Int), RS (fam Tryz.f56 [7, 12, 17, 20] [] [] (fun r : (List Int) => sq eI r) (fun r => [])) (Func.head Tryz.f56 1) ⟨ofT [(1, .int .i64 a1), (2, .int .i64 a2), (7, .osl 7 eI.w 0 o7b.length o7b.length), (15, sq e_L x15), (16, .int .i64 x16), (17, .int .i64 x17), (29, sq eS (rdE e_L x15 x17)), (30, .int .i64 ((rdE e_L x15 x17).length : Int)), (31, .int .i64 x31b)], ofL [(7, bufE eI o7b)]⟩ (key_lengths.l1 k a1 a2 x15 x16 x17 x31b o7b)) ∧ (∀ (a1 : Int) (a2 : Int) (x15 : List (List ByteArray)) (x16 : Int) (x17 : Int) (o7j7 : List Int), RS (fam Tryz.f56 [7, 12, 17, 20] [] [] (fun r : (List Int) => sq eI r) (fun r => [])) (Func.reg Tryz.f56 7) ⟨ofT [(1, .int .i64 a1), (2, .int .i64 a2), (7, .osl 7 eI.w 0 o7j7.length o7j7.length), (9, sq eS (rdE e_L x15 x17)), (15, sq e_L x15), (16, .int .i64 x16), (17, .int .i64 x17)], ofL [(7, bufE eI o7j7)]⟩ (key_lengths.j7 k a1 a2 x15 x16 x17 o7j7)) ∧ (∀ (a1 : Int) (a2 : Int) (x15 : List (List ByteArray)) (x16 : Int) (x17 : Int) (o7 : List Int), RS (fam Tryz.f56 [7, 12, 17, 20] [] [] (fun r : (List Int) => sq eI r) (fun r => [])) (Func.head Tryz.f56 0) ⟨ofT [(1, .int .i64 a1), (2, .int .i64 a2), (7, .osl 7 eI.w 0 o7.length o7.length), (15, sq e_L x15), (16, .int .i64 x16), (17, .int .i64 x17)], ofL [(7, bufE eI o7)]⟩ (key_lengths.l0 k a1 a2 x15 x16 x17 o7))
  | 0 => ⟨by intro _ _ _ _ _ _ _ _ _; simp only [key_lengths.j20]; exact RS.none, by intro _ _ _ _ _ _ _ _; simp only [key_lengths.j17]; exact RS.none, by intro _ _ _ _ _ _ _ _; simp only [key_lengths.l2]; exact RS.none, by intro _ _ _ _ _ _ _; simp only [key_lengths.j12]; exact RS.none, by intro _ _ _ _ _ _ _; simp only [key_lengths.l1]; exact RS.none, by intro _ _ _ _ _ _; simp only [key_lengths.j7]; exact RS.none, by intro _ _ _ _ _ _; simp only [key_lengths.l0]; exact RS.none⟩
  | k + 1 => by
    have ih := key_lengths.loops k
    refine ⟨?_, ?_, ?_, ?_, ?_, ?_, ?_⟩
    · intro a1 a2 x15 x16 x17 x31b x45c o7j17 x13j20
      simp only [key_lengths.j20]
      refine RS.region ?_
      refine RS.go ?_
      refine RT.goto rfl ?_
      refine RS.slot 63 (sq eI [x13j20]) (Le.lit (E := eI) (l := [x13j20]) (cells_of rfl)) ?_
      refine RS.go ?_
      refine RT.req rfl ⟨by first | rfl | simp, by first | exact Nat.le_refl _ | simp⟩ ?_
      refine RT.not rfl (by simp <;> omega) ?_
      refine RT.br rfl (fun c8 => ?_) (fun _ => RT.none)
      refine RT.goto rfl ?_
      refine RS.obj 7 (bufE eI (o7j17 ++ [x13j20])) ⟨_, rfl, LeO.app (l := o7j17) (m := [x13j20]) fun _ _ _ _ => rfl⟩ ?_
      refine RS.slot 64 (.osl 7 eI.w 0 (o7j17 ++ [x13j20]).length (o7j17 ++ [x13j20]).length) (by first | exact Le.oslN rfl (by simp) | exact Le.trans (y := .osl 7 eI.w 0 (o7j17.length + 1) (o7j17.length + 1)) (Le.refl _) (Le.oslN rfl (by simp))) ?_
      refine RS.go ?_
      refine RT.goto rfl ?_
      refine RS.weak [(1, .int .i64 a1), (2, .int .i64 a2), (7, .osl 7 eI.w 0 (o7j17 ++ [x13j20]).length (o7j17 ++ [x13j20]).length), (11, .str (rdE eS (rdE e_L x15 x17) x31b)), (15, sq e_L x15), (16, .int .i64 x16), (17, .int .i64 x17), (29, sq eS (rdE e_L x15 x17)), (30, .int .i64 ((rdE e_L x15 x17).length : Int)), (31, .int .i64 x31b), (44, .int .i64 ((rdE eS (rdE e_L x15 x17) x31b).size : Int)), (45, .int .i64 (wrap64 (x45c + 1)))] [(7, bufE eI (o7j17 ++ [x13j20]))] ⟨Le.eq (by first | rfl | simp), Le.eq (by first | rfl | simp), (by first | exact Le.oslN rfl (by first | rfl | simp) | exact Le.refl _ | exact Le.eq (by first | rfl | simp)), Le.eq (by first | rfl | simp), Le.eq (by first | rfl | simp), Le.eq (by first | rfl | simp), Le.eq (by first | rfl | simp), Le.eq (by first | rfl | simp), Le.eq (by first | rfl | simp), Le.eq (by first | rfl | simp), Le.eq (by first | rfl | simp), Le.eq (by first | rfl | simp), trivial⟩ ⟨⟨_, rfl, LeO.refl _⟩, trivial⟩ rfl (dom0 rfl) ?_
      exact ih.2.2.1 a1 a2 x15 x16 x17 x31b (wrap64 (x45c + 1)) (o7j17 ++ [x13j20]) 
    · intro a1 a2 x15 x16 x17 x31b x45c o7j17
      simp only [key_lengths.j17]
      refine RS.region ?_
      refine RS.go ?_
      refine RT.br rfl (fun c6 => ?_) (fun c6 => RT.none)
      refine RT.br rfl (fun c7 => ?_) (fun c7 => RT.none)
      refine RT.br rfl (fun c9 => ?_) (fun c9 => ?_)
      · refine RT.goto rfl ?_
        refine RS.weak [(1, .int .i64 a1), (2, .int .i64 a2), (7, .osl 7 eI.w 0 o7j17.length o7j17.length), (11, .str (rdE eS (rdE e_L x15 x17) x31b)), (13, .int .i64 (wrap64 (a1 * 3))), (15, sq e_L x15), (16, .int .i64 x16), (17, .int .i64 x17), (29, sq eS (rdE e_L x15 x17)), (30, .int .i64 ((rdE e_L x15 x17).length : Int)), (31, .int .i64 x31b), (44, .int .i64 ((rdE eS (rdE e_L x15 x17) x31b).size : Int)), (45, .int .i64 x45c)] [(7, bufE eI o7j17)] ⟨Le.eq (by first | rfl | simp), Le.eq (by first | rfl | simp), (by first | exact Le.oslN rfl (by first | rfl | simp) | exact Le.refl _ | exact Le.eq (by first | rfl | simp)), Le.eq (by first | rfl | simp), Le.eq (by first | rfl | simp), Le.eq (by first | rfl | simp), Le.eq (by first | rfl | simp), Le.eq (by first | rfl | simp), Le.eq (by first | rfl | simp), Le.eq (by first | rfl | simp), Le.eq (by first | rfl | simp), Le.eq (by first | rfl | simp), Le.eq (by first | rfl | simp), trivial⟩ ⟨⟨_, rfl, LeO.refl _⟩, trivial⟩ rfl (dom0 rfl) ?_
        exact ih.1 a1 a2 x15 x16 x17 x31b x45c o7j17 (wrap64 (a1 * 3)) 
      · refine RT.goto rfl ?_
        refine RS.weak [(1, .int .i64 a1), (2, .int .i64 a2), (7, .osl 7 eI.w 0 o7j17.length o7j17.length), (11, .str (rdE eS (rdE e_L x15 x17) x31b)), (13, .int .i64 a1), (15, sq e_L x15), (16, .int .i64 x16), (17, .int .i64 x17), (29, sq eS (rdE e_L x15 x17)), (30, .int .i64 ((rdE e_L x15 x17).length : Int)), (31, .int .i64 x31b), (44, .int .i64 ((rdE eS (rdE e_L x15 x17) x31b).size : Int)), (45, .int .i64 x45c)] [(7, bufE eI o7j17)] ⟨Le.eq (by first | rfl | simp), Le.eq (by first | rfl | simp), (by first | exact Le.oslN rfl (by first | rfl | simp) | exact Le.refl _ | exact Le.eq (by first | rfl | simp)), Le.eq (by first | rfl | simp), Le.eq (by first | rfl | simp), Le.eq (by first | rfl | simp), Le.eq (by first | rfl | simp), Le.eq (by first | rfl | simp), Le.eq (by first | rfl | simp), Le.eq (by first | rfl | simp), Le.eq (by first | rfl | simp), Le.eq (by first | rfl | simp), Le.eq (by first | rfl | simp), trivial⟩ ⟨⟨_, rfl, LeO.refl _⟩, trivial⟩ rfl (dom0 rfl) ?_
        exact ih.1 a1 a2 x15 x16 x17 x31b x45c o7j17 a1 
    · intro a1 a2 x15 x16 x17 x31b x45c o7c
      simp only [key_lengths.l2]
      refine RS.go ?_
      refine RT.br rfl (fun c12 => ?_) (fun c12 => ?_)
      · refine RT.br rfl (fun c11 => ?_) (fun c11 => ?_)
        · refine RT.goto rfl ?_
          refine RS.slot 52 (sq eI [a1]) (Le.lit (E := eI) (l := [a1]) (cells_of rfl)) ?_
          refine RS.go ?_
          refine RT.req rfl ⟨by first | rfl | simp, by first | exact Nat.le_refl _ | simp⟩ ?_
          refine RT.not rfl (by simp <;> omega) ?_
          refine RT.br rfl (fun c10 => ?_) (fun _ => RT.none)
          refine RT.goto rfl ?_
          refine RS.obj 7 (bufE eI (o7c ++ [a1])) ⟨_, rfl, LeO.app (l := o7c) (m := [a1]) fun _ _ _ _ => rfl⟩ ?_
          refine RS.slot 53 (.osl 7 eI.w 0 (o7c ++ [a1]).length (o7c ++ [a1]).length) (by first | exact Le.oslN rfl (by simp) | exact Le.trans (y := .osl 7 eI.w 0 (o7c.length + 1) (o7c.length + 1)) (Le.refl _) (Le.oslN rfl (by simp))) ?_
          refine RS.go ?_
          refine RT.goto rfl ?_
          refine RS.weak [(1, .int .i64 a1), (2, .int .i64 a2), (7, .osl 7 eI.w 0 (o7c ++ [a1]).length (o7c ++ [a1]).length), (11, .str (rdE eS (rdE e_L x15 x17) x31b)), (12, .int .i64 x45c), (15, sq e_L x15), (16, .int .i64 x16), (17, .int .i64 x17), (29, sq eS (rdE e_L x15 x17)), (30, .int .i64 ((rdE e_L x15 x17).length : Int)), (31, .int .i64 x31b), (44, .int .i64 ((rdE eS (rdE e_L x15 x17) x31b).size : Int)), (45, .int .i64 x45c)] [(7, bufE eI (o7c ++ [a1]))] ⟨Le.eq (by first | rfl | simp), Le.eq (by first | rfl | simp), (by first | exact Le.oslN rfl (by first | rfl | simp) | exact Le.refl _ | exact Le.eq (by first | rfl | simp)), Le.eq (by first | rfl | simp), Le.eq (by first | rfl | simp), Le.eq (by first | rfl | simp), Le.eq (by first | rfl | simp), Le.eq (by first | rfl | simp), Le.eq (by first | rfl | simp), Le.eq (by first | rfl | simp), Le.eq (by first | rfl | simp), Le.eq (by first | rfl | simp), Le.eq (by first | rfl | simp), trivial⟩ ⟨⟨_, rfl, LeO.refl _⟩, trivial⟩ rfl (dom0 rfl) ?_
          exact ih.2.1 a1 a2 x15 x16 x17 x31b x45c (o7c ++ [a1]) 
        · refine RT.goto rfl ?_
          refine RS.weak [(1, .int .i64 a1), (2, .int .i64 a2), (7, .osl 7 eI.w 0 o7c.length o7c.length), (11, .str (rdE eS (rdE e_L x15 x17) x31b)), (12, .int .i64 x45c), (15, sq e_L x15), (16, .int .i64 x16), (17, .int .i64 x17), (29, sq eS (rdE e_L x15 x17)), (30, .int .i64 ((rdE e_L x15 x17).length : Int)), (31, .int .i64 x31b), (44, .int .i64 ((rdE eS (rdE e_L x15 x17) x31b).size : Int)), (45, .int .i64 x45c)] [(7, bufE eI o7c)] ⟨Le.eq (by first | rfl | simp), Le.eq (by first | rfl | simp), (by first | exact Le.oslN rfl (by first | rfl | simp) | exact Le.refl _ | exact Le.eq (by first | rfl | simp)), Le.eq (by first | rfl | simp), Le.eq (by first | rfl | simp), Le.eq (by first | rfl | simp), Le.eq (by first | rfl | simp), Le.eq (by first | rfl | simp), Le.eq (by first | rfl | simp), Le.eq (by first | rfl | simp), Le.eq (by first | rfl | simp), Le.eq (by first | rfl | simp), Le.eq (by first | rfl | simp), trivial⟩ ⟨⟨_, rfl, LeO.refl _⟩, trivial⟩ rfl (dom0 rfl) ?_
          exact ih.2.1 a1 a2 x15 x16 x17 x31b x45c o7c 
      · refine RT.goto rfl ?_
        refine RS.weak [(1, .int .i64 a1), (2, .int .i64 a2), (7, .osl 7 eI.w 0 o7c.length o7c.length), (15, sq e_L x15), (16, .int .i64 x16), (17, .int .i64 x17), (29, sq eS (rdE e_L x15 x17)), (30, .int .i64 ((rdE e_L x15 x17).length : Int)), (31, .int .i64 (wrap64 (x31b + 1)))] [(7, bufE eI o7c)] ⟨Le.eq (by first | rfl | simp), Le.eq (by first | rfl | simp), (by first | exact Le.oslN rfl (by first | rfl | simp) | exact Le.refl _ | exact Le.eq (by first | rfl | simp)), Le.eq (by first | rfl | simp), Le.eq (by first | rfl | simp), Le.eq (by first | rfl | simp), Le.eq (by first | rfl | simp), Le.eq (by first | rfl | simp), Le.eq (by first | rfl | simp), trivial⟩ ⟨⟨_, rfl, LeO.refl _⟩, trivial⟩ rfl (dom0 rfl) ?_
        exact ih.2.2.2.2.1 a1 a2 x15 x16 x17 (wrap64 (x31b + 1)) o7c 
    · intro a1 a2 x15 x16 x17 x31b o7j12
      simp only [key_lengths.j12]
      refine RS.region ?_
      refine RS.go ?_
      refine RT.goto rfl ?_
      refine RS.weak [(1, .int .i64 a1), (2, .int .i64 a2), (7, .osl 7 eI.w 0 o7j12.length o7j12.length), (11, .str (rdE eS (rdE e_L x15 x17) x31b)), (15, sq e_L x15), (16, .int .i64 x16), (17, .int .i64 x17), (29, sq eS (rdE e_L x15 x17)), (30, .int .i64 ((rdE e_L x15 x17).length : Int)), (31, .int .i64 x31b), (44, .int .i64 ((rdE eS (rdE e_L x15 x17) x31b).size : Int)), (45, .int .i64 0)] [(7, bufE eI o7j12)] ⟨Le.eq (by first | rfl | simp), Le.eq (by first | rfl | simp), (by first | exact Le.oslN rfl (by first | rfl | simp) | exact Le.refl _ | exact Le.eq (by first | rfl | simp)), Le.eq (by first | rfl | simp), Le.eq (by first | rfl | simp), Le.eq (by first | rfl | simp), Le.eq (by first | rfl | simp), Le.eq (by first | rfl | simp), Le.eq (by first | rfl | simp), Le.eq (by first | rfl | simp), Le.eq (by first | rfl | simp), Le.eq (by first | rfl | simp), trivial⟩ ⟨⟨_, rfl, LeO.refl _⟩, trivial⟩ rfl (dom0 rfl) ?_
      exact ih.2.2.1 a1 a2 x15 x16 x17 x31b 0 o7j12 
    · intro a1 a2 x15 x16 x17 x31b o7b
      simp only [key_lengths.l1]
      refine RS.go ?_
      refine RT.br rfl (fun c15 => ?_) (fun c15 => ?_)
      · refine RT.br rfl (fun c4 => ?_) (fun c4 => RT.none)
        refine RT.br rfl (fun c5 => ?_) (fun c5 => RT.none)
        refine RT.br rfl (fun c14 => ?_) (fun c14 => ?_)
        · refine RT.goto rfl ?_
          refine RS.slot 41 (sq eI [wrap64 (3 * a2)]) (Le.lit (E := eI) (l := [wrap64 (3 * a2)]) (cells_of rfl)) ?_
          refine RS.go ?_
          refine RT.req rfl ⟨by first | rfl | simp, by first | exact Nat.le_refl _ | simp⟩ ?_
          refine RT.not rfl (by simp <;> omega) ?_
          refine RT.br rfl (fun c13 => ?_) (fun _ => RT.none)
          refine RT.goto rfl ?_
          refine RS.obj 7 (bufE eI (o7b ++ [wrap64 (3 * a2)])) ⟨_, rfl, LeO.app (l := o7b) (m := [wrap64 (3 * a2)]) fun _ _ _ _ => rfl⟩ ?_
          refine RS.slot 42 (.osl 7 eI.w 0 (o7b ++ [wrap64 (3 * a2)]).length (o7b ++ [wrap64 (3 * a2)]).length) (by first | exact Le.oslN rfl (by simp) | exact Le.trans (y := .osl 7 eI.w 0 (o7b.length + 1) (o7b.length + 1)) (Le.refl _) (Le.oslN rfl (by simp))) ?_
          refine RS.go ?_
          refine RT.goto rfl ?_
          refine RS.weak [(1, .int .i64 a1), (2, .int .i64 a2), (7, .osl 7 eI.w 0 (o7b ++ [wrap64 (3 * a2)]).length (o7b ++ [wrap64 (3 * a2)]).length), (11, .str (rdE eS (rdE e_L x15 x17) x31b)), (15, sq e_L x15), (16, .int .i64 x16), (17, .int .i64 x17), (29, sq eS (rdE e_L x15 x17)), (30, .int .i64 ((rdE e_L x15 x17).length : Int)), (31, .int .i64 x31b)] [(7, bufE eI (o7b ++ [wrap64 (3 * a2)]))] ⟨Le.eq (by first | rfl | simp), Le.eq (by first | rfl | simp), (by first | exact Le.oslN rfl (by first | rfl | simp) | exact Le.refl _ | exact Le.eq (by first | rfl | simp)), Le.eq (by first | rfl | simp), Le.eq (by first | rfl | simp), Le.eq (by first | rfl | simp), Le.eq (by first | rfl | simp), Le.eq (by first | rfl | simp), Le.eq (by first | rfl | simp), Le.eq (by first | rfl | simp), trivial⟩ ⟨⟨_, rfl, LeO.refl _⟩, trivial⟩ rfl (dom0 rfl) ?_
          exact ih.2.2.2.1 a1 a2 x15 x16 x17 x31b (o7b ++ [wrap64 (3 * a2)]) 
        · refine RT.goto rfl ?_
          refine RS.weak [(1, .int .i64 a1), (2, .int .i64 a2), (7, .osl 7 eI.w 0 o7b.length o7b.length), (11, .str (rdE eS (rdE e_L x15 x17) x31b)), (15, sq e_L x15), (16, .int .i64 x16), (17, .int .i64 x17), (29, sq eS (rdE e_L x15 x17)), (30, .int .i64 ((rdE e_L x15 x17).length : Int)), (31, .int .i64 x31b)] [(7, bufE eI o7b)] ⟨Le.eq (by first | rfl | simp), Le.eq (by first | rfl | simp), (by first | exact Le.oslN rfl (by first | rfl | simp) | exact Le.refl _ | exact Le.eq (by first | rfl | simp)), Le.eq (by first | rfl | simp), Le.eq (by first | rfl | simp), Le.eq (by first | rfl | simp), Le.eq (by first | rfl | simp), Le.eq (by first | rfl | simp), Le.eq (by first | rfl | simp), Le.eq (by first | rfl | simp), trivial⟩ ⟨⟨_, rfl, LeO.refl _⟩, trivial⟩ rfl (dom0 rfl) ?_
          exact ih.2.2.2.1 a1 a2 x15 x16 x17 x31b o7b 
      · refine RT.goto rfl ?_
        refine RS.weak [(1, .int .i64 a1), (2, .int .i64 a2), (7, .osl 7 eI.w 0 o7b.length o7b.length), (15, sq e_L x15), (16, .int .i64 x16), (17, .int .i64 (wrap64 (x17 + 1)))] [(7, bufE eI o7b)] ⟨Le.eq (by first | rfl | simp), Le.eq (by first | rfl | simp), (by first | exact Le.oslN rfl (by first | rfl | simp) | exact Le.refl _ | exact Le.eq (by first | rfl | simp)), Le.eq (by first | rfl | simp), Le.eq (by first | rfl | simp), Le.eq (by first | rfl | simp), trivial⟩ ⟨⟨_, rfl, LeO.refl _⟩, trivial⟩ rfl (dom0 rfl) ?_
        exact ih.2.2.2.2.2.2 a1 a2 x15 x16 (wrap64 (x17 + 1)) o7b 
    · intro a1 a2 x15 x16 x17 o7j7
      simp only [key_lengths.j7]
      refine RS.region ?_
      refine RS.go ?_
      refine RT.goto rfl ?_
      refine RS.weak [(1, .int .i64 a1), (2, .int .i64 a2), (7, .osl 7 eI.w 0 o7j7.length o7j7.length), (15, sq e_L x15), (16, .int .i64 x16), (17, .int .i64 x17), (29, sq eS (rdE e_L x15 x17)), (30, .int .i64 ((rdE e_L x15 x17).length : Int)), (31, .int .i64 0)] [(7, bufE eI o7j7)] ⟨Le.eq (by first | rfl | simp), Le.eq (by first | rfl | simp), (by first | exact Le.oslN rfl (by first | rfl | simp) | exact Le.refl _ | exact Le.eq (by first | rfl | simp)), Le.eq (by first | rfl | simp), Le.eq (by first | rfl | simp), Le.eq (by first | rfl | simp), Le.eq (by first | rfl | simp), Le.eq (by first | rfl | simp), Le.eq (by first | rfl | simp), trivial⟩ ⟨⟨_, rfl, LeO.refl _⟩, trivial⟩ rfl (dom0 rfl) ?_
      exact ih.2.2.2.2.1 a1 a2 x15 x16 x17 0 o7j7 
    · intro a1 a2 x15 x16 x17 o7
      simp only [key_lengths.l0]
      refine RS.go ?_
      refine RT.br rfl (fun c18 => ?_) (fun c18 => ?_)
      · refine RT.br rfl (fun c2 => ?_) (fun c2 => RT.none)
        refine RT.br rfl (fun c3 => ?_) (fun c3 => RT.none)
        refine RT.br rfl (fun c17 => ?_) (fun c17 => ?_)
        · refine RT.goto rfl ?_
          refine RS.slot 27 (sq eI [wrap64 (7 * a2)]) (Le.lit (E := eI) (l := [wrap64 (7 * a2)]) (cells_of rfl)) ?_
          refine RS.go ?_
          refine RT.req rfl ⟨by first | rfl | simp, by first | exact Nat.le_refl _ | simp⟩ ?_
          refine RT.not rfl (by simp <;> omega) ?_
          refine RT.br rfl (fun c16 => ?_) (fun _ => RT.none)
          refine RT.goto rfl ?_
          refine RS.obj 7 (bufE eI (o7 ++ [wrap64 (7 * a2)])) ⟨_, rfl, LeO.app (l := o7) (m := [wrap64 (7 * a2)]) fun _ _ _ _ => rfl⟩ ?_
          refine RS.slot 28 (.osl 7 eI.w 0 (o7 ++ [wrap64 (7 * a2)]).length (o7 ++ [wrap64 (7 * a2)]).length) (by first | exact Le.oslN rfl (by simp) | exact Le.trans (y := .osl 7 eI.w 0 (o7.length + 1) (o7.length + 1)) (Le.refl _) (Le.oslN rfl (by simp))) ?_
          refine RS.go ?_
          refine RT.goto rfl ?_
          refine RS.weak [(1, .int .i64 a1), (2, .int .i64 a2), (7, .osl 7 eI.w 0 (o7 ++ [wrap64 (7 * a2)]).length (o7 ++ [wrap64 (7 * a2)]).length), (9, sq eS (rdE e_L x15 x17)), (15, sq e_L x15), (16, .int .i64 x16), (17, .int .i64 x17)] [(7, bufE eI (o7 ++ [wrap64 (7 * a2)]))] ⟨Le.eq (by first | rfl | simp), Le.eq (by first | rfl | simp), (by first | exact Le.oslN rfl (by first | rfl | simp) | exact Le.refl _ | exact Le.eq (by first | rfl | simp)), Le.eq (by first | rfl | simp), Le.eq (by first | rfl | simp), Le.eq (by first | rfl | simp), Le.eq (by first | rfl | simp), trivial⟩ ⟨⟨_, rfl, LeO.refl _⟩, trivial⟩ rfl (dom0 rfl) ?_
          exact ih.2.2.2.2.2.1 a1 a2 x15 x16 x17 (o7 ++ [wrap64 (7 * a2)]) 
        · refine RT.goto rfl ?_
          refine RS.weak [(1, .int .i64 a1), (2, .int .i64 a2), (7, .osl 7 eI.w 0 o7.length o7.length), (9, sq eS (rdE e_L x15 x17)), (15, sq e_L x15), (16, .int .i64 x16), (17, .int .i64 x17)] [(7, bufE eI o7)] ⟨Le.eq (by first | rfl | simp), Le.eq (by first | rfl | simp), (by first | exact Le.oslN rfl (by first | rfl | simp) | exact Le.refl _ | exact Le.eq (by first | rfl | simp)), Le.eq (by first | rfl | simp), Le.eq (by first | rfl | simp), Le.eq (by first | rfl | simp), Le.eq (by first | rfl | simp), trivial⟩ ⟨⟨_, rfl, LeO.refl _⟩, trivial⟩ rfl (dom0 rfl) ?_
          exact ih.2.2.2.2.2.1 a1 a2 x15 x16 x17 o7 
      · refine RT.freeze 7 _ _ _ [(6, sq eI o7)] [] rfl rfl ⟨.inr ⟨_, rfl, by first | exact Nat.le_refl _ | simp, rfl⟩, trivial⟩ trivial rfl (dom0 rfl) ?_
        exact RT.done rfl rfl (Le.refl _) trivial rfl (dom0 rfl)
theorem key_lengths.ok (k : Nat) (a0 : ByteArray) (a1 : Int) (a2 : Int) (r : (List Int)) (h : key_lengths.f k a0 a1 a2 = some r) : Ct Tryz.prog B 56 [.str a0, .int .i64 a1, .int .i64 a2] (ofL []) (sq eI r) (ofL []) := by
  refine Ct.of (Y := (fam Tryz.f56 [7, 12, 17, 20] [] [] (fun r : (List Int) => sq eI r) (fun r => []))) Tryz.func56 rfl Tryz.call56 rfl rfl ?_ r h
  unfold key_lengths.f
  refine RS.go ?_
  refine RT.call0 rfl (fun _ h => key_words.ok k a0 _ h) (LeL.eq rfl) (fun _ => rfl) (fun r1 => ?_)
  refine RS.go ?_
  refine RT.goto rfl ?_
  refine RS.ghost 7 7 eI.w (rep eI []) rfl rfl ?_
  refine RS.weak [(1, .int .i64 a1), (2, .int .i64 a2), (7, .osl 7 eI.w 0 ([] : List Int).length ([] : List Int).length), (15, sq e_L r1), (16, .int .i64 (r1.length : Int)), (17, .int .i64 0)] [(7, bufE eI ([] : List Int))] ⟨Le.eq (by first | rfl | simp), Le.eq (by first | rfl | simp), (by first | exact Le.oslN rfl (by first | rfl | simp) | exact Le.refl _ | exact Le.eq (by first | rfl | simp)), Le.eq (by first | rfl | simp), Le.eq (by first | rfl | simp), Le.eq (by first | rfl | simp), trivial⟩ ⟨⟨_, rfl, LeO.refl _⟩, trivial⟩ rfl (dom0 rfl) ?_
  exact (key_lengths.loops k).2.2.2.2.2.2 a1 a2 r1 (r1.length : Int) 0 [] 
/-! ### key_Key: function 10 -/
def key_Key.f (k : Nat) (a0 : ByteArray) (a1 : Int) (a2 : Int) : Option ((List Int) × Int) := ((key_CheckSaid.f k a0).bind fun r1 => (if r1 = 0 then ((kit_Outside.f a1 1 2000).bind fun r2 => (if r2 = true then Option.some ([], 1) else ((kit_Outside.f a2 a1 2000).bind fun r3 => (if r3 = true then Option.some ([], 1) else ((key_lengths.f k a0 a1 a2).bind fun r4 => Option.some (r4, 0)))))) else Option.some ([], r1)))
theorem key_Key.ok (k : Nat) (a0 : ByteArray) (a1 : Int) (a2 : Int) (r : (List Int) × Int) (h : key_Key.f k a0 a1 a2 = some r) : Ct Tryz.prog B 10 [.str a0, .int .i64 a1, .int .i64 a2] (ofL []) (.tup [sq eI r.1, .int .i64 r.2]) (ofL []) := by
  refine Ct.of (Y := (fam Tryz.f10 [] [] [] (fun r : (List Int) × Int => .tup [sq eI r.1, .int .i64 r.2]) (fun r => []))) Tryz.func10 rfl Tryz.call10 rfl rfl ?_ r h
  unfold key_Key.f
  refine RS.go ?_
  refine RT.call0 rfl (fun _ h => key_CheckSaid.ok k a0 _ h) (LeL.eq rfl) (fun _ => rfl) (fun r1 => ?_)
  refine RS.go ?_
  refine RT.brN rfl (fun c7 => ?_) (fun c7 => ?_)
  · refine RT.call0 rfl (fun _ h => kit_Outside.ok a1 1 2000 _ h) (LeL.eq rfl) (fun _ => rfl) (fun r2 => ?_)
    refine RS.go ?_
    refine RT.brB rfl (fun c6 => ?_) (fun c6 => ?_)
    · refine RT.brT rfl ?_
      refine RT.brT rfl ?_
      refine RT.brT rfl ?_
      refine RT.brT rfl ?_
      exact RT.done rfl rfl (Le.tup (LeL.cons (Le.nil _ _) (LeL.cons (Le.refl _) (LeL.nil)))) trivial rfl (dom0 rfl)
    · refine RT.brF rfl ?_
      refine RT.brF rfl ?_
      refine RT.call0 rfl (fun _ h => kit_Outside.ok a2 a1 2000 _ h) (LeL.eq rfl) (fun _ => rfl) (fun r3 => ?_)
      refine RS.go ?_
      refine RT.brF rfl ?_
      refine RT.brB rfl (fun c5 => ?_) (fun c5 => ?_)
      · exact RT.done rfl rfl (Le.tup (LeL.cons (Le.nil _ _) (LeL.cons (Le.refl _) (LeL.nil)))) trivial rfl (dom0 rfl)
      · refine RT.call0 rfl (fun _ h => key_lengths.ok k a0 a1 a2 _ h) (LeL.eq rfl) (fun _ => rfl) (fun r4 => ?_)
        refine RS.go ?_
        exact RT.done rfl rfl (Le.tup (LeL.cons (Le.refl _) (LeL.cons (Le.refl _) (LeL.nil)))) trivial rfl (dom0 rfl)
  · exact RT.done rfl rfl (Le.tup (LeL.cons (Le.nil _ _) (LeL.cons (Le.refl _) (LeL.nil)))) trivial rfl (dom0 rfl)
/-! ### key_CheckMarks_1: function 127 -/
def key_CheckMarks_1.f (a0 : Int) : Option (Bool) := ((kit_Outside.f a0 1 100000).bind fun r1 => Option.some r1)
theorem key_CheckMarks_1.ok (a0 : Int) (r : Bool) (h : key_CheckMarks_1.f a0 = some r) : Ct Tryz.prog B 127 [.int .i64 a0] (ofL []) (.bool r) (ofL []) := by
  refine Ct.of (Y := (fam Tryz.f127 [] [] [] (fun r : Bool => .bool r) (fun r => []))) Tryz.func127 rfl Tryz.call127 rfl rfl ?_ r h
  unfold key_CheckMarks_1.f
  refine RS.go ?_
  refine RT.call0 rfl (fun _ h => kit_Outside.ok a0 1 100000 _ h) (LeL.eq rfl) (fun _ => rfl) (fun r1 => ?_)
  refine RS.go ?_
  exact RT.done rfl rfl (Le.refl _) trivial rfl (dom0 rfl)
/-! ### slices_IndexFunc_int_int_of_key_CheckMarks_1: function 128 -/
def slices_IndexFunc_int_int_of_key_CheckMarks_1.l0 : Nat → List Int → Int → Option (Int)
  | 0, _, _ => Option.none
  | k + 1, l0, x8 => (if x8 < (l0.length : Int) then (if 0 ≤ x8 then (if x8 < (l0.length : Int) then ((key_CheckMarks_1.f (rd l0 x8)).bind fun r3 => (if r3 = true then Option.some x8 else slices_IndexFunc_int_int_of_key_CheckMarks_1.l0 k l0 (wrap64 (x8 + 1)))) else Option.none) else Option.none) else Option.some (-1))
def slices_IndexFunc_int_int_of_key_CheckMarks_1.f (k : Nat) (l0 : List Int) : Option (Int) := slices_IndexFunc_int_int_of_key_CheckMarks_1.l0 k l0 0
theorem slices_IndexFunc_int_int_of_key_CheckMarks_1.loops : ∀ k, (∀ (l0 : List Int) (x8 : Int), RS (fam Tryz.f128 [] [] [] (fun r : Int => .int .i64 r) (fun r => [])) (Func.head Tryz.f128 0) ⟨ofT [(0, sq eI l0), (1, .fn 127 []), (7, .int .i64 (l0.length : Int)), (8, .int .i64 x8)], ofL []⟩ (slices_IndexFunc_int_int_of_key_CheckMarks_1.l0 k l0 x8))
  | 0 => by intro _ _; simp only [slices_IndexFunc_int_int_of_key_CheckMarks_1.l0]; exact RS.none
  | k + 1 => by
    have ih := slices_IndexFunc_int_int_of_key_CheckMarks_1.loops k
    · intro l0 x8
      simp only [slices_IndexFunc_int_int_of_key_CheckMarks_1.l0]
      refine RS.go ?_
      refine RT.br rfl (fun c5 => ?_) (fun c5 => ?_)
      · refine RT.br rfl (fun c1 => ?_) (fun c1 => RT.none)
        refine RT.br rfl (fun c2 => ?_) (fun c2 => RT.none)
        refine RT.call0 rfl (fun _ h => key_CheckMarks_1.ok (rd l0 x8) _ h) (LeL.eq rfl) (fun _ => rfl) (fun r3 => ?_)
        refine RS.go ?_
        refine RT.brB rfl (fun c4 => ?_) (fun c4 => ?_)
        · exact RT.done rfl rfl (Le.refl _) trivial rfl (dom0 rfl)
        · refine RT.goto rfl ?_
          refine RS.weak [(0, sq eI l0), (1, .fn 127 []), (7, .int .i64 (l0.length : Int)), (8, .int .i64 (wrap64 (x8 + 1)))] [] ⟨Le.eq (by first | rfl | simp), Le.eq (by first | rfl | simp), Le.eq (by first | rfl | simp), Le.eq (by first | rfl | simp), trivial⟩ trivial rfl (dom0 rfl) ?_
          exact ih l0 (wrap64 (x8 + 1)) 
      · exact RT.done rfl rfl (Le.refl _) trivial rfl (dom0 rfl)
theorem slices_IndexFunc_int_int_of_key_CheckMarks_1.ok (k : Nat) (l0 : List Int) (r : Int) (h : slices_IndexFunc_int_int_of_key_CheckMarks_1.f k l0 = some r) : Ct Tryz.prog B 128 [sq eI l0, .fn 127 []] (ofL []) (.int .i64 r) (ofL []) := by
  refine Ct.of (Y := (fam Tryz.f128 [] [] [] (fun r : Int => .int .i64 r) (fun r => []))) Tryz.func128 rfl Tryz.call128 rfl rfl ?_ r h
  unfold slices_IndexFunc_int_int_of_key_CheckMarks_1.f
  refine RS.go ?_
  refine RT.goto rfl ?_
  refine RS.weak [(0, sq eI l0), (1, .fn 127 []), (7, .int .i64 (l0.length : Int)), (8, .int .i64 0)] [] ⟨Le.eq (by first | rfl | simp), Le.eq (by first | rfl | simp), Le.eq (by first | rfl | simp), Le.eq (by first | rfl | simp), trivial⟩ trivial rfl (dom0 rfl) ?_
  exact slices_IndexFunc_int_int_of_key_CheckMarks_1.loops k l0 0 
/-! ### slices_ContainsFunc_int_int_of_key_CheckMarks_1: function 72 -/
def slices_ContainsFunc_int_int_of_key_CheckMarks_1.f (k : Nat) (l0 : List Int) : Option (Bool) := ((slices_IndexFunc_int_int_of_key_CheckMarks_1.f k l0).bind fun r1 => Option.some (decide (r1 ≥ 0)))
theorem slices_ContainsFunc_int_int_of_key_CheckMarks_1.ok (k : Nat) (l0 : List Int) (r : Bool) (h : slices_ContainsFunc_int_int_of_key_CheckMarks_1.f k l0 = some r) : Ct Tryz.prog B 72 [sq eI l0, .fn 127 []] (ofL []) (.bool r) (ofL []) := by
  refine Ct.of (Y := (fam Tryz.f72 [] [] [] (fun r : Bool => .bool r) (fun r => []))) Tryz.func72 rfl Tryz.call72 rfl rfl ?_ r h
  unfold slices_ContainsFunc_int_int_of_key_CheckMarks_1.f
  refine RS.go ?_
  refine RT.call0 rfl (fun _ h => slices_IndexFunc_int_int_of_key_CheckMarks_1.ok k l0 _ h) (LeL.eq rfl) (fun _ => rfl) (fun r1 => ?_)
  refine RS.go ?_
  exact RT.done rfl rfl (Le.refl _) trivial rfl (dom0 rfl)
/-! ### key_CheckMarks: function 69 -/
def key_CheckMarks.f (k : Nat) (l0 : List Int) : Option (Int) := (if (l0.length : Int) = 0 then Option.some 8 else (if (l0.length : Int) > 20000 then Option.some 2 else (if Int.tmod (l0.length : Int) 2 = 0 then Option.some 3 else ((slices_ContainsFunc_int_int_of_key_CheckMarks_1.f k l0).bind fun r1 => (if r1 = true then Option.some 1 else Option.some 0)))))
theorem key_CheckMarks.ok (k : Nat) (l0 : List Int) (r : Int) (h : key_CheckMarks.f k l0 = some r) : Ct Tryz.prog B 69 [sq eI l0] (ofL []) (.int .i64 r) (ofL []) := by
  refine Ct.of (Y := (fam Tryz.f69 [] [] [] (fun r : Int => .int .i64 r) (fun r => []))) Tryz.func69 rfl Tryz.call69 rfl rfl ?_ r h
  unfold key_CheckMarks.f
  refine RS.go ?_
  refine RT.br rfl (fun c5 => ?_) (fun c5 => ?_)
  · exact RT.done rfl rfl (Le.refl _) trivial rfl (dom0 rfl)
  · refine RT.br rfl (fun c4 => ?_) (fun c4 => ?_)
    · exact RT.done rfl rfl (Le.refl _) trivial rfl (dom0 rfl)
    · refine RT.brF rfl ?_
      refine RT.br rfl (fun c3 => ?_) (fun c3 => ?_)
      · exact RT.done rfl rfl (Le.refl _) trivial rfl (dom0 rfl)
      · refine RT.call0 rfl (fun _ h => slices_ContainsFunc_int_int_of_key_CheckMarks_1.ok k l0 _ h) (LeL.eq rfl) (fun _ => rfl) (fun r1 => ?_)
        refine RS.go ?_
        refine RT.brB rfl (fun c2 => ?_) (fun c2 => ?_)
        · exact RT.done rfl rfl (Le.refl _) trivial rfl (dom0 rfl)
        · exact RT.done rfl rfl (Le.refl _) trivial rfl (dom0 rfl)
/-! ### key_unitFault: function 57 -/
def key_unitFault.f (k : Nat) (l0 : List Int) (a1 : Int) : Option (Int) := ((key_CheckMarks.f k l0).bind fun r1 => (if r1 = 0 then ((kit_Outside.f a1 1 2000).bind fun r2 => (if r2 = true then Option.some 1 else Option.some 0)) else Option.some r1))
theorem key_unitFault.ok (k : Nat) (l0 : List Int) (a1 : Int) (r : Int) (h : key_unitFault.f k l0 a1 = some r) : Ct Tryz.prog B 57 [sq eI l0, .int .i64 a1] (ofL []) (.int .i64 r) (ofL []) := by
  refine Ct.of (Y := (fam Tryz.f57 [] [] [] (fun r : Int => .int .i64 r) (fun r => []))) Tryz.func57 rfl Tryz.call57 rfl rfl ?_ r h
  unfold key_unitFault.f
  refine RS.go ?_
  refine RT.call0 rfl (fun _ h => key_CheckMarks.ok k l0 _ h) (LeL.eq rfl) (fun _ => rfl) (fun r1 => ?_)
  refine RS.go ?_
  refine RT.brN rfl (fun c4 => ?_) (fun c4 => ?_)
  · refine RT.call0 rfl (fun _ h => kit_Outside.ok a1 1 2000 _ h) (LeL.eq rfl) (fun _ => rfl) (fun r2 => ?_)
    refine RS.go ?_
    refine RT.brB rfl (fun c3 => ?_) (fun c3 => ?_)
    · exact RT.done rfl rfl (Le.refl _) trivial rfl (dom0 rfl)
    · exact RT.done rfl rfl (Le.refl _) trivial rfl (dom0 rfl)
  · exact RT.done rfl rfl (Le.refl _) trivial rfl (dom0 rfl)
/-! ### key_byCodes: function 86 -/
def key_byCodes.l0 : Nat → List (ByteArray × ByteArray) → Int → Int → List (ByteArray × ByteArray) → Option ((List (ByteArray × ByteArray)))
  | 0, _, _, _, _ => Option.none
  | k + 1, x5, x6, x7, o4 => (if x7 < x6 then (if 0 ≤ x7 then (if x7 < (x5.length : Int) then key_byCodes.l0 k x5 x6 (wrap64 (x7 + 1)) (mput o4 ((rdE e_SS x5 x7).2) ((rdE e_SS x5 x7).1)) else Option.none) else Option.none) else Option.some o4)
def key_byCodes.f (k : Nat) : Option ((List (ByteArray × ByteArray))) := ((key_Codes.f k ).bind fun r1 => key_byCodes.l0 k r1 (r1.length : Int) 0 ([] : List (ByteArray × ByteArray)))
theorem key_byCodes.loops : ∀ k, (∀ (x5 : List (ByteArray × ByteArray)) (x6 : Int) (x7 : Int) (o4 : List (ByteArray × ByteArray)), RS (fam Tryz.f86 [] [] [] (fun r : (List (ByteArray × ByteArray)) => .omap 4) (fun r => [(4, mapE KL.strs (ByteArray.empty : ByteArray) AV.str r)])) (Func.head Tryz.f86 0) ⟨ofT [(1, .omap 4), (5, sq e_SS x5), (6, .int .i64 x6), (7, .int .i64 x7)], ofL [(4, mapE KL.strs (ByteArray.empty : ByteArray) AV.str o4)]⟩ (key_byCodes.l0 k x5 x6 x7 o4))
  | 0 => by intro _ _ _ _; simp only [key_byCodes.l0]; exact RS.none
  | k + 1 => by
    have ih := key_byCodes.loops k
    · intro x5 x6 x7 o4
      simp only [key_byCodes.l0]
      refine RS.go ?_
      refine RT.br rfl (fun c4 => ?_) (fun c4 => ?_)
      · refine RT.br rfl (fun c2 => ?_) (fun c2 => RT.none)
        refine RT.br rfl (fun c3 => ?_) (fun c3 => RT.none)
        refine RT.goto rfl ?_
        refine RS.obj 4 (mapE KL.strs (ByteArray.empty : ByteArray) AV.str (mput o4 ((rdE e_SS x5 x7).2) ((rdE e_SS x5 x7).1))) ⟨_, rfl, LeO.putS⟩ ?_
        refine RS.go ?_
        refine RT.goto rfl ?_
        refine RS.weak [(1, .omap 4), (5, sq e_SS x5), (6, .int .i64 x6), (7, .int .i64 (wrap64 (x7 + 1)))] [(4, mapE KL.strs (ByteArray.empty : ByteArray) AV.str (mput o4 ((rdE e_SS x5 x7).2) ((rdE e_SS x5 x7).1)))] ⟨Le.eq (by first | rfl | simp), Le.eq (by first | rfl | simp), Le.eq (by first | rfl | simp), Le.eq (by first | rfl | simp), trivial⟩ ⟨⟨_, rfl, LeO.refl _⟩, trivial⟩ rfl (dom0 rfl) ?_
        exact ih x5 x6 (wrap64 (x7 + 1)) (mput o4 ((rdE e_SS x5 x7).2) ((rdE e_SS x5 x7).1)) 
      · exact RT.done rfl rfl (Le.refl _) ⟨⟨_, rfl, LeO.refl _⟩, trivial⟩ rfl (dom0 rfl)
theorem key_byCodes.ok (k : Nat) (r : (List (ByteArray × ByteArray))) (h : key_byCodes.f k  = some r) : Ct Tryz.prog B 86 [] (ofL []) (.omap 4) (ofL [(4, mapE KL.strs (ByteArray.empty : ByteArray) AV.str r)]) := by
  refine Ct.of (Y := (fam Tryz.f86 [] [] [] (fun r : (List (ByteArray × ByteArray)) => .omap 4) (fun r => [(4, mapE KL.strs (ByteArray.empty : ByteArray) AV.str r)]))) Tryz.func86 rfl Tryz.call86 rfl rfl ?_ r h
  unfold key_byCodes.f
  refine RS.go ?_
  refine RT.call0 rfl (fun _ h => key_Codes.ok k  _ h) (LeL.eq rfl) (fun _ => rfl) (fun r1 => ?_)
  refine RS.go ?_
  refine RT.goto rfl ?_
  refine RS.weak [(1, .omap 4), (5, sq e_SS r1), (6, .int .i64 (r1.length : Int)), (7, .int .i64 0)] [(4, mapE KL.strs (ByteArray.empty : ByteArray) AV.str ([] : List (ByteArray × ByteArray)))] ⟨Le.eq (by first | rfl | simp), Le.eq (by first | rfl | simp), Le.eq (by first | rfl | simp), Le.eq (by first | rfl | simp), trivial⟩ ⟨⟨_, rfl, LeO.refl _⟩, trivial⟩ rfl (dom0 rfl) ?_
  exact key_byCodes.loops k r1 (r1.length : Int) 0 ([] : List (ByteArray × ByteArray)) 
/-! ### strings.Builder at this seat -/
open Go.RowKit Go.Shelf Go.Proofs in
set_option maxHeartbeats 2000000 in
set_option maxRecDepth 100000 in
theorem bdCheckN {b : Nat} {w : World} (h0 : w.cell? ⟨b, 0, none⟩ = some (.pointer none)) (hsh : w.shape? b = some (136, 2)) (hfz : w.frozen? ⟨b, 0, none⟩ = false) :
    Calls Tryz.prog 160 #[.pointer (some ⟨b, 0, none⟩)] w fun e w' => e = .returned (.tuple #[]) ∧ w' = w.setCell ⟨b, 0, none⟩ (.pointer (some ⟨b, 0, none⟩)) := by
  obtain ⟨j, hj, hjs⟩ := Option.map_eq_some_iff.1 (show (Tryz.prog.info? 136).map (·.size) = some 2 by kernel_rfl)
  go_enter Tryz.func160, Tryz.ntmps160
  go_wp2
  rw [Lib.run_to_unsafe w ⟨b, 0, none⟩ Tryz.underlying133 Tryz.underlying228 hj (by rw [hjs]; decide) hsh (Nat.zero_lt_succ 1)]
  simp only [Result.andThen]
  rw [Oper.upon_value]
  go_wp2
  rw [run_callFunc_extern Tryz.func212 (by kernel_rfl) (by kernel_rfl) (by kernel_rfl) (e := Extern.AbiNoEscape.same) (by kernel_rfl)]
  rw [Lib.run_noEscape]
  simp only [Result.andThen]
  rw [Oper.upon_value]
  go_wp2
  rw [Lib.run_from_unsafe w ⟨b, 0, none⟩ Tryz.underlying228 Tryz.underlying133 hj hsh (by kernel_rfl)]
  simp only [Result.andThen]
  rw [Oper.upon_value]
  go_wp2
  go_end0
  exact ⟨rfl, rfl⟩
open Go.RowKit Go.Shelf Go.Proofs in
set_option maxHeartbeats 2000000 in
set_option maxRecDepth 100000 in
theorem bdCheckU {b : Nat} {w : World} (h0 : w.cell? ⟨b, 0, none⟩ = some (.pointer (some ⟨b, 0, none⟩))) :
    Calls Tryz.prog 160 #[.pointer (some ⟨b, 0, none⟩)] w fun e w' => e = .returned (.tuple #[]) ∧ w' = w := by
  obtain ⟨j, hj, _⟩ := Option.map_eq_some_iff.1 (show (Tryz.prog.info? 136).map (·.size) = some 2 by kernel_rfl)
  go_enter Tryz.func160, Tryz.ntmps160
  go_wp2
  rw [Lib.run_neq_ptr_same w _ Tryz.underlying133 hj]
  go_wp2
  go_end0
  exact ⟨rfl, rfl⟩
theorem bdCheck {b : Nat} {v : Value} {xs : List Value} {w : World} (h : BdFrom 136 5 b v xs w) :
    Calls Tryz.prog 160 #[.pointer (some ⟨b, 0, none⟩)] w fun e w' => e = .returned (.tuple #[]) ∧ w'.heap[b]? = some (.cells #[.pointer (some ⟨b, 0, none⟩), v] 136 (0, 0)) ∧ w'.ownsRowF 0 5 1 v xs.length xs ∧
      w'.os = w.os ∧ w'.tape = w.tape ∧ w'.output = w.output ∧ w.heap.size ≤ w'.heap.size ∧ ∀ k, k ≠ b → w'.heap[k]? = w.heap[k]? := by
  obtain ⟨p, hp, hbk⟩ := h.bk
  have hA : Lib.BuilderAtF 136 5 0 b p xs w := ⟨Nat.zero_le _, v, hbk, h.own, h.ne⟩
  rcases hp with rfl | rfl
  · refine (bdCheckN hA.cell0 hA.shape hA.frozen0).mono ?_
    rintro e w' ⟨rfl, rfl⟩
    exact ⟨rfl, BdFrom.used hbk hA⟩
  · refine (bdCheckU hA.cell0).mono ?_
    rintro e w' ⟨rfl, rfl⟩
    exact ⟨rfl, hbk, h.own, rfl, rfl, rfl, Nat.le_refl _, fun _ _ => rfl⟩
open Go.RowKit Go.Shelf Go.Proofs in
set_option maxHeartbeats 2000000 in
set_option maxRecDepth 100000 in
theorem bdStringCore {b n cap : Nat} {a : Option Addr} {q : Value} {t : ByteArray} {w wf : World} (c1 : w.drew.cell? ⟨b, 1, none⟩ = some (.slice a n cap))
    (hSD : (Builtin.unsafeSliceData_ #[134] 192 #[.slice a n cap]).run Tryz.prog w.drew = .ok q w.drew) (hUS : (Builtin.unsafeString_ #[192, 3] 9 #[q, .int .i64 n]).run Tryz.prog w.drew = .ok (.string t) wf) :
    Calls Tryz.prog 115 #[.pointer (some ⟨b, 0, none⟩)] w fun e w' => e = .returned (.string t) ∧ w' = wf := by
  have mixed : Tryz.prog.follows .mixedOrders = true := by kernel_rfl
  go_enter Tryz.func115, Tryz.ntmps115
  go_wp2
  go_region_o
  all_goals (go_wp2; go_ret; exact ⟨rfl, rfl⟩)
theorem bdString {b : Nat} {v : Value} (t : ByteArray) {w : World} (h : BdFrom 136 5 b v (Lib.strCells t) w) :
    Calls Tryz.prog 115 #[.pointer (some ⟨b, 0, none⟩)] w fun e w' => e = .returned (.string t) ∧ BdTo 136 5 b v (Lib.strCells t) w w' := by
  have hk := bd_string (P := Tryz.prog) (tp := 192) (ti := 3) (ts := 9) (tl := 134) Tryz.underlying192 (show Tryz.prog.cellsOf 5 = 1 by kernel_rfl) h
  obtain ⟨a, n, cap, q, wf, h1, h2, h3, h4⟩ := hk
  exact (bdStringCore h1 h2 h3).mono fun e w' ⟨he, hw⟩ => ⟨he, hw ▸ h4⟩
def strings_Builder_String.f (v : Nat) (b : ByteArray) : Option (Nat × ByteArray) := some (v + 1, b)
theorem strings_Builder_String.ok (v : Nat) (b : ByteArray) (r : Nat × ByteArray) (h : strings_Builder_String.f v b = some r) :
    Ct Tryz.prog B 115 [.ref 100000 0 0 0 2] (ofL [(100000, .bx 136 1100000 v b.size), (1100000, .bb 5 v b)]) (.str r.2) (ofL [(100000, .bx 136 1100000 r.1 r.2.size), (1100000, .bb 5 r.1 r.2)]) := by
  unfold strings_Builder_String.f at h
  cases h
  refine @Ct.bd Tryz.prog B 115 136 5 100000 1100000 v b b [] [] (.string b) (.str b) (by omega) Tryz.call115 rfl (fun _ _ _ => R.str _) fun k x w hF => ?_
  exact bdString b hF

/-! ### key_signOf: function 88 -/
def key_signOf.f (m0 : List (ByteArray × ByteArray)) (a1 : ByteArray) : Option (ByteArray) := (if a1 ∈ List.map Prod.fst m0 then Option.some (mget (ByteArray.empty : ByteArray) m0 a1) else Option.some (⟨#[42]⟩ : ByteArray))
theorem key_signOf.ok (m0 : List (ByteArray × ByteArray)) (a1 : ByteArray) (r : ByteArray) (h : key_signOf.f m0 a1 = some r) : Ct Tryz.prog B 88 [.omap 100000, .str a1] (ofL [(100000, mapE KL.strs (ByteArray.empty : ByteArray) AV.str m0)]) (.str r) (ofL [(100000, mapE KL.strs (ByteArray.empty : ByteArray) AV.str m0)]) := by
  refine Ct.of (Y := (fam Tryz.f88 [] [] [(100000, mapE KL.strs (ByteArray.empty : ByteArray) AV.str m0)] (fun r : ByteArray => .str r) (fun r => [(100000, mapE KL.strs (ByteArray.empty : ByteArray) AV.str m0)]))) Tryz.func88 rfl Tryz.call88 rfl rfl ?_ r h
  unfold key_signOf.f
  refine RS.go ?_
  refine RT.req rfl (congrArg AV.str (map_end (l := m0) (d := (ByteArray.empty : ByteArray)))) ?_
  refine RT.br rfl (fun c1 => ?_) (fun c1 => ?_)
  · exact RT.done rfl rfl (Le.refl _) ⟨⟨_, rfl, LeO.refl _⟩, trivial⟩ rfl (dom_of rfl)
  · exact RT.done rfl rfl (Le.refl _) ⟨⟨_, rfl, LeO.refl _⟩, trivial⟩ rfl (dom_of rfl)
open Go.RowKit Go.Shelf Go.Proofs in
set_option maxHeartbeats 2000000 in
set_option maxRecDepth 100000 in
theorem bdWriteString {b : Nat} {v : Value} {xs : List Value} (s : ByteArray) {w : World} (h : BdFrom 136 5 b v xs w) (hlen : xs.length + s.size ≤ 140737488355328) :
    Calls Tryz.prog 114 #[.pointer (some ⟨b, 0, none⟩), .string s] w fun e w' => e = .returned (.tuple #[.int .i64 s.size, .nilIface]) ∧ BdTo 136 5 b v (xs ++ Lib.strCells s) w w' := by
  obtain ⟨i0, hi, hz0, hz1, hz2⟩ := info_parts (show (Tryz.prog.info? 5).map (fun i => (i.zero, i.size, i.bytes)) = some (some (.int .u8 0), 1, 1) by kernel_rfl)
  have hne := h.ne
  have hnil := h.nil
  have ecc : ∀ args w, (callFunc 160 args).run Tryz.prog w = .ok (.enter 160 args) w := Tryz.call160
  go_enter Tryz.func114, Tryz.ntmps114
  go_wp2_with (go_at_fn 160; refine (bdCheck h).mono ?_)
  rintro e w1 ⟨rfl, hbk, hown, f1, f2, f3, f4, f5⟩
  have hlt : b < w1.heap.size := (Array.getElem?_eq_some_iff.1 hbk).1
  have c0 : w1.cell? ⟨b, 0, none⟩ = some (.pointer (some ⟨b, 0, none⟩)) := by rw [Lib.cell_of_heap hbk]; rfl
  have c1 : w1.cell? ⟨b, 1, none⟩ = some v := by rw [Lib.cell_of_heap hbk]; rfl
  go_wp2_with (at_builtin; refine wpList_app_str _ rfl _ _ 134 9 rfl 5 i0 Tryz.underlying134 Tryz.underlying9 hi hz0 hz1 hz2 _ _ _ rfl hown s rfl ?c3 ?c4 ?_)
  case c3 => unfold maxLen; omega
  case c4 => omega
  intro v' w2 hown' hgrow hnil' hnew
  have hb2 : w2.heap[b]? = some (.cells #[.pointer (some ⟨b, 0, none⟩), v] 136 (0, 0)) := (hgrow.block b hlt (fun e => hne e.symm)).trans hbk
  have d0 : w2.cell? ⟨b, 0, none⟩ = some (.pointer (some ⟨b, 0, none⟩)) := by rw [Lib.cell_of_heap hb2]; rfl
  have d1 : w2.cell? ⟨b, 1, none⟩ = some v := by rw [Lib.cell_of_heap hb2]; rfl
  have fr1 : w2.frozen? ⟨b, 1, none⟩ = false := Lib.frozen_of_heap hb2 1
  have hnil3 : xs ++ Lib.strCells s = [] → v' = .slice none 0 0 := fun h0 => by
    obtain ⟨h1, h2⟩ := List.append_eq_nil_iff.1 h0
    have h3 := Lib.strCells_length s
    rw [h2] at h3
    have h4 : s.size = 0 := h3.symm
    exact hnil'.2 ⟨hnil h1, by first | exact h4 | simpa using h4⟩
  obtain ⟨ao, n', cap, rfl⟩ : ∃ ao n' cap, v' = .slice ao n' cap := by
    rcases hown'.2 with ⟨hv, _⟩ | ⟨g, cap, cur, fz, hv, _⟩
    · exact ⟨_, _, _, hv⟩
    · exact ⟨_, _, _, hv⟩
  go_wp2
  go_ret2
  refine ⟨rfl, BdTo.put (by decide) (by omega) hbk ⟨f1, f2, f3, fun k hk hkb => f5 k hkb⟩ hne (by simpa [Lib.strCells_length] using hown') hgrow hnil3 hnew⟩
def strings_Builder_WriteString.f (v : Nat) (b : ByteArray) (s : ByteArray) : Option (Nat × ByteArray) := if b.size + s.size ≤ 140737488355328 then some (v + 1, b ++ s) else none
theorem strings_Builder_WriteString.ok (v : Nat) (b : ByteArray) (s : ByteArray) (r : Nat × ByteArray) (h : strings_Builder_WriteString.f v b s = some r) :
    Ct Tryz.prog B 114 [.ref 100000 0 0 0 2, .str s] (ofL [(100000, .bx 136 1100000 v b.size), (1100000, .bb 5 v b)]) .bad (ofL [(100000, .bx 136 1100000 r.1 r.2.size), (1100000, .bb 5 r.1 r.2)]) := by
  unfold strings_Builder_WriteString.f at h
  split at h
  case isFalse => cases h
  case isTrue hc =>
  cases h
  refine @Ct.bd Tryz.prog B 114 136 5 100000 1100000 v b (b ++ s) [.str s] [.string s] (.tuple #[.int .i64 s.size, .nilIface]) .bad (by omega) Tryz.call114 rfl (fun _ _ _ => R.bad _) fun k x w hF => ?_
  have := bdWriteString s hF (by rw [Lib.strCells_length]; exact hc)
  rw [strCells_app]
  exact this

/-! ### strings_Builder_Reset: function 116 -/
def strings_Builder_Reset.f (p0v : Nat) (p0 : ByteArray) : Option (Nat × ByteArray) := Option.some (p0v, ByteArray.empty)
theorem strings_Builder_Reset.ok (p0v : Nat) (p0 : ByteArray) (r : Nat × ByteArray) (h : strings_Builder_Reset.f p0v p0 = some r) : Ct Tryz.prog B 116 [.ref 100000 0 0 0 2] (ofL [(100000, .bx 136 1100000 p0v p0.size), (1100000, .bb 5 p0v p0)]) (.tup []) (ofL [(100000, .bx 136 1100000 r.1 r.2.size), (1100000, .bb 5 r.1 r.2)]) := by
  refine Ct.of (Y := (fam Tryz.f116 [] [] [(100000, .bx 136 1100000 p0v p0.size), (1100000, .bb 5 p0v p0)] (fun r : Nat × ByteArray => .tup []) (fun r => [(100000, .bx 136 1100000 r.1 r.2.size), (1100000, .bb 5 r.1 r.2)]))) Tryz.func116 rfl Tryz.call116 rfl rfl ?_ r h
  unfold strings_Builder_Reset.f
  refine RS.go ?_
  refine RT.goto rfl ?_
  refine RS.go ?_
  refine RT.goto rfl ?_
  refine RS.obj 1100000 (.bb 5 p0v ByteArray.empty) ⟨_, rfl, LeO.bbN⟩ ?_
  refine RS.obj 100000 (.bx 136 1100000 p0v ByteArray.empty.size) ⟨_, rfl, LeO.refl _⟩ ?_
  refine RS.go ?_
  exact RT.done rfl rfl (Le.tup (LeL.nil)) ⟨⟨_, rfl, LeO.refl _⟩, ⟨⟨_, rfl, LeO.refl _⟩, trivial⟩⟩ rfl (dom_of rfl)
/-! ### key_isMark: function 75 -/
def key_isMark.f (a0 : Int) : Option (Bool) := Option.some (decide (Int.tmod a0 2 = 0))
theorem key_isMark.ok (a0 : Int) (r : Bool) (h : key_isMark.f a0 = some r) : Ct Tryz.prog B 75 [.int .i64 a0] (ofL []) (.bool r) (ofL []) := by
  refine Ct.of (Y := (fam Tryz.f75 [] [] [] (fun r : Bool => .bool r) (fun r => []))) Tryz.func75 rfl Tryz.call75 rfl rfl ?_ r h
  unfold key_isMark.f
  refine RS.go ?_
  refine RT.brF rfl ?_
  exact RT.done rfl rfl (Le.refl _) trivial rfl (dom0 rfl)
/-! ### key_nearest: function 74 -/
mutual
def key_nearest.j11 : Nat → Int → Int → List Int → Int → Int → Int → Option (Int × Int)
  | 0, _, _, _, _, _, _ => Option.none
  | k + 1, a0, a1, x8j4, x18, x6j11, x7j11 => key_nearest.l0 k a0 a1 x8j4 x6j11 x7j11 (wrap64 (x18 + 1))
def key_nearest.l0 : Nat → Int → Int → List Int → Int → Int → Int → Option (Int × Int)
  | 0, _, _, _, _, _, _ => Option.none
  | k + 1, a0, a1, x8j4, x6, x7, x18 => (if x18 < (x8j4.length : Int) then (if 0 ≤ x18 then (if x18 < (x8j4.length : Int) then (if x7 < 0 then key_nearest.j11 k a0 a1 x8j4 x18 (rd x8j4 x18) (mx (wrap64 (a0 - (wrap64 ((rd x8j4 x18) * a1)))) (wrap64 ((wrap64 ((rd x8j4 x18) * a1)) - a0))) else (if mx (wrap64 (a0 - (wrap64 ((rd x8j4 x18) * a1)))) (wrap64 ((wrap64 ((rd x8j4 x18) * a1)) - a0)) < x7 then key_nearest.j11 k a0 a1 x8j4 x18 (rd x8j4 x18) (mx (wrap64 (a0 - (wrap64 ((rd x8j4 x18) * a1)))) (wrap64 ((wrap64 ((rd x8j4 x18) * a1)) - a0))) else key_nearest.j11 k a0 a1 x8j4 x18 x6 x7)) else Option.none) else Option.none) else Option.some (x6, x7))
def key_nearest.j4 : Nat → Int → Int → List Int → Option (Int × Int)
  | 0, _, _, _ => Option.none
  | k + 1, a0, a1, x8j4 => key_nearest.l0 k a0 a1 x8j4 0 (-1) 0
end
def key_nearest.f (k : Nat) (a0 : Int) (a1 : Int) (a2 : Bool) : Option (Int × Int) := (if a2 = true then (if 2 ≤ ([1, 3, 7].length : Int) then key_nearest.j4 k a0 a1 ([1, 3, 7].take 2) else Option.none) else key_nearest.j4 k a0 a1 [1, 3, 7])
theorem key_nearest.loops : ∀ k, (∀ (a0 : Int) (a1 : Int) (x8j4 : List Int) (x18 : Int) (x6j11 : Int) (x7j11 : Int), RS (fam Tryz.f74 [4, 11] [] [] (fun r : Int × Int => .tup [.int .i64 r.1, .int .i64 r.2]) (fun r => [])) (Func.reg Tryz.f74 11) ⟨ofT [(0, .int .i64 a0), (1, .int .i64 a1), (6, .int .i64 x6j11), (7, .int .i64 x7j11), (16, sq eI x8j4), (17, .int .i64 (x8j4.length : Int)), (18, .int .i64 x18)], ofL []⟩ (key_nearest.j11 k a0 a1 x8j4 x18 x6j11 x7j11)) ∧ (∀ (a0 : Int) (a1 : Int) (x8j4 : List Int) (x6 : Int) (x7 : Int) (x18 : Int), RS (fam Tryz.f74 [4, 11] [] [] (fun r : Int × Int => .tup [.int .i64 r.1, .int .i64 r.2]) (fun r => [])) (Func.head Tryz.f74 0) ⟨ofT [(0, .int .i64 a0), (1, .int .i64 a1), (6, .int .i64 x6), (7, .int .i64 x7), (16, sq eI x8j4), (17, .int .i64 (x8j4.length : Int)), (18, .int .i64 x18)], ofL []⟩ (key_nearest.l0 k a0 a1 x8j4 x6 x7 x18)) ∧ (∀ (a0 : Int) (a1 : Int) (x8j4 : List Int), RS (fam Tryz.f74 [4, 11] [] [] (fun r : Int × Int => .tup [.int .i64 r.1, .int .i64 r.2]) (fun r => [])) (Func.reg Tryz.f74 4) ⟨ofT [(0, .int .i64 a0), (1, .int .i64 a1), (6, .int .i64 0), (8, sq eI x8j4)], ofL []⟩ (key_nearest.j4 k a0 a1 x8j4))
  | 0 => ⟨by intro _ _ _ _ _ _; simp only [key_nearest.j11]; exact RS.none, by intro _ _ _ _ _ _; simp only [key_nearest.l0]; exact RS.none, by intro _ _ _; simp only [key_nearest.j4]; exact RS.none⟩
  | k + 1 => by
    have ih := key_nearest.loops k
    refine ⟨?_, ?_, ?_⟩
    · intro a0 a1 x8j4 x18 x6j11 x7j11
      simp only [key_nearest.j11]
      refine RS.region ?_
      refine RS.go ?_
      refine RT.goto rfl ?_
      refine RS.weak [(0, .int .i64 a0), (1, .int .i64 a1), (6, .int .i64 x6j11), (7, .int .i64 x7j11), (16, sq eI x8j4), (17, .int .i64 (x8j4.length : Int)), (18, .int .i64 (wrap64 (x18 + 1)))] [] ⟨Le.eq (by first | rfl | simp), Le.eq (by first | rfl | simp), Le.eq (by first | rfl | simp), Le.eq (by first | rfl | simp), Le.eq (by first | rfl | simp), Le.eq (by first | rfl | simp), Le.eq (by first | rfl | simp), trivial⟩ trivial rfl (dom0 rfl) ?_
      exact ih.2.1 a0 a1 x8j4 x6j11 x7j11 (wrap64 (x18 + 1)) 
    · intro a0 a1 x8j4 x6 x7 x18
      simp only [key_nearest.l0]
      refine RS.go ?_
      refine RT.br rfl (fun c6 => ?_) (fun c6 => ?_)
      · refine RT.br rfl (fun c2 => ?_) (fun c2 => RT.none)
        refine RT.br rfl (fun c3 => ?_) (fun c3 => RT.none)
        refine RT.br rfl (fun c5 => ?_) (fun c5 => ?_)
        · refine RT.brT rfl ?_
          refine RT.brT rfl ?_
          refine RT.brT rfl ?_
          refine RT.brT rfl ?_
          refine RT.goto rfl ?_
          refine RS.weak [(0, .int .i64 a0), (1, .int .i64 a1), (6, .int .i64 (rd x8j4 x18)), (7, .int .i64 (mx (wrap64 (a0 - (wrap64 ((rd x8j4 x18) * a1)))) (wrap64 ((wrap64 ((rd x8j4 x18) * a1)) - a0)))), (16, sq eI x8j4), (17, .int .i64 (x8j4.length : Int)), (18, .int .i64 x18)] [] ⟨Le.eq (by first | rfl | simp), Le.eq (by first | rfl | simp), Le.eq (by first | rfl | simp), Le.eq (by first | rfl | simp), Le.eq (by first | rfl | simp), Le.eq (by first | rfl | simp), Le.eq (by first | rfl | simp), trivial⟩ trivial rfl (dom0 rfl) ?_
          exact ih.1 a0 a1 x8j4 x18 (rd x8j4 x18) (mx (wrap64 (a0 - (wrap64 ((rd x8j4 x18) * a1)))) (wrap64 ((wrap64 ((rd x8j4 x18) * a1)) - a0))) 
        · refine RT.brF rfl ?_
          refine RT.brF rfl ?_
          refine RT.brF rfl ?_
          refine RT.br rfl (fun c4 => ?_) (fun c4 => ?_)
          · refine RT.goto rfl ?_
            refine RS.weak [(0, .int .i64 a0), (1, .int .i64 a1), (6, .int .i64 (rd x8j4 x18)), (7, .int .i64 (mx (wrap64 (a0 - (wrap64 ((rd x8j4 x18) * a1)))) (wrap64 ((wrap64 ((rd x8j4 x18) * a1)) - a0)))), (16, sq eI x8j4), (17, .int .i64 (x8j4.length : Int)), (18, .int .i64 x18)] [] ⟨Le.eq (by first | rfl | simp), Le.eq (by first | rfl | simp), Le.eq (by first | rfl | simp), Le.eq (by first | rfl | simp), Le.eq (by first | rfl | simp), Le.eq (by first | rfl | simp), Le.eq (by first | rfl | simp), trivial⟩ trivial rfl (dom0 rfl) ?_
            exact ih.1 a0 a1 x8j4 x18 (rd x8j4 x18) (mx (wrap64 (a0 - (wrap64 ((rd x8j4 x18) * a1)))) (wrap64 ((wrap64 ((rd x8j4 x18) * a1)) - a0))) 
          · refine RT.goto rfl ?_
            refine RS.weak [(0, .int .i64 a0), (1, .int .i64 a1), (6, .int .i64 x6), (7, .int .i64 x7), (16, sq eI x8j4), (17, .int .i64 (x8j4.length : Int)), (18, .int .i64 x18)] [] ⟨Le.eq (by first | rfl | simp), Le.eq (by first | rfl | simp), Le.eq (by first | rfl | simp), Le.eq (by first | rfl | simp), Le.eq (by first | rfl | simp), Le.eq (by first | rfl | simp), Le.eq (by first | rfl | simp), trivial⟩ trivial rfl (dom0 rfl) ?_
            exact ih.1 a0 a1 x8j4 x18 x6 x7 
      · exact RT.done rfl rfl (Le.tup (LeL.cons (Le.refl _) (LeL.cons (Le.refl _) (LeL.nil)))) trivial rfl (dom0 rfl)
    · intro a0 a1 x8j4
      simp only [key_nearest.j4]
      refine RS.region ?_
      refine RS.go ?_
      refine RT.goto rfl ?_
      refine RS.weak [(0, .int .i64 a0), (1, .int .i64 a1), (6, .int .i64 0), (7, .int .i64 (-1)), (16, sq eI x8j4), (17, .int .i64 (x8j4.length : Int)), (18, .int .i64 0)] [] ⟨Le.eq (by first | rfl | simp), Le.eq (by first | rfl | simp), Le.eq (by first | rfl | simp), Le.eq (by first | rfl | simp), Le.eq (by first | rfl | simp), Le.eq (by first | rfl | simp), Le.eq (by first | rfl | simp), trivial⟩ trivial rfl (dom0 rfl) ?_
      exact ih.2.1 a0 a1 x8j4 0 (-1) 0 
theorem key_nearest.ok (k : Nat) (a0 : Int) (a1 : Int) (a2 : Bool) (r : Int × Int) (h : key_nearest.f k a0 a1 a2 = some r) : Ct Tryz.prog B 74 [.int .i64 a0, .int .i64 a1, .bool a2] (ofL []) (.tup [.int .i64 r.1, .int .i64 r.2]) (ofL []) := by
  refine Ct.of (Y := (fam Tryz.f74 [4, 11] [] [] (fun r : Int × Int => .tup [.int .i64 r.1, .int .i64 r.2]) (fun r => []))) Tryz.func74 rfl Tryz.call74 rfl rfl ?_ r h
  unfold key_nearest.f
  refine RS.go ?_
  refine RT.goto rfl ?_
  refine RS.slot 12 (sq eI [1, 3, 7]) (Le.lit (E := eI) (l := [1, 3, 7]) (cells_of rfl)) ?_
  refine RS.go ?_
  refine RT.brB rfl (fun c7 => ?_) (fun c7 => ?_)
  · refine RT.brT rfl ?_
    refine RT.br rfl (fun c1 => ?_) (fun c1 => RT.none)
    refine RT.goto rfl ?_
    refine RS.slot 15 (sq eI ([1, 3, 7].take 2)) (Le.head (by first | omega | assumption) (by first | omega | assumption)) ?_
    refine RS.go ?_
    refine RT.goto rfl ?_
    refine RS.weak [(0, .int .i64 a0), (1, .int .i64 a1), (6, .int .i64 0), (8, sq eI ([1, 3, 7].take 2))] [] ⟨Le.eq (by first | rfl | simp), Le.eq (by first | rfl | simp), Le.eq (by first | rfl | simp), Le.eq (by first | rfl | simp), trivial⟩ trivial rfl (dom0 rfl) ?_
    exact (key_nearest.loops k).2.2 a0 a1 ([1, 3, 7].take 2) 
  · refine RT.goto rfl ?_
    refine RS.weak [(0, .int .i64 a0), (1, .int .i64 a1), (6, .int .i64 0), (8, sq eI [1, 3, 7])] [] ⟨Le.eq (by first | rfl | simp), Le.eq (by first | rfl | simp), Le.eq (by first | rfl | simp), Le.eq (by first | rfl | simp), trivial⟩ trivial rfl (dom0 rfl) ?_
    exact (key_nearest.loops k).2.2 a0 a1 [1, 3, 7] 
open Go.RowKit Go.Shelf Go.Proofs in
set_option maxHeartbeats 2000000 in
set_option maxRecDepth 100000 in
theorem bdWriteByte {b : Nat} {v : Value} {xs : List Value} (c : Int) {w : World} (h : BdFrom 136 5 b v xs w) (hlen : xs.length + 1 ≤ 140737488355328) :
    Calls Tryz.prog 117 #[.pointer (some ⟨b, 0, none⟩), .int .u8 c] w fun e w' => e = .returned .nilIface ∧ BdTo 136 5 b v (xs ++ [.int .u8 c]) w w' := by
  obtain ⟨i0, hi, hz0, hz1, hz2⟩ := info_parts (show (Tryz.prog.info? 5).map (fun i => (i.zero, i.size, i.bytes)) = some (some (.int .u8 0), 1, 1) by kernel_rfl)
  have hne := h.ne
  have hnil := h.nil
  have ecc : ∀ args w, (callFunc 160 args).run Tryz.prog w = .ok (.enter 160 args) w := Tryz.call160
  go_enter Tryz.func117, Tryz.ntmps117
  go_wp2_with (go_at_fn 160; refine (bdCheck h).mono ?_)
  rintro e w1 ⟨rfl, hbk, hown, f1, f2, f3, f4, f5⟩
  have hlt : b < w1.heap.size := (Array.getElem?_eq_some_iff.1 hbk).1
  have c0 : w1.cell? ⟨b, 0, none⟩ = some (.pointer (some ⟨b, 0, none⟩)) := by rw [Lib.cell_of_heap hbk]; rfl
  have c1 : w1.cell? ⟨b, 1, none⟩ = some v := by rw [Lib.cell_of_heap hbk]; rfl
  go_wp2_with (at_builtin; refine wpList_app_bytes _ rfl _ _ 134 rfl 5 i0 Tryz.underlying134 hi hz0 hz1 hz2 _ _ _ rfl (hown.alloc _) ⟨w1.heap.size, 0, none⟩ 1 1 [.int .u8 c] rfl rfl ?c1 ?c2 ?c3 ?c4 ?_)
  case c1 =>
    intro j u hj
    match j, hj with
    | 0, hj => simp at hj; subst hj; simp [Addr.add]
  case c2 => intro u hu; simp at hu; subst hu; rfl
  case c3 => unfold maxLen; omega
  case c4 => omega
  intro v' w2 hown' hgrow hnil' hnew
  have hb2 : w2.heap[b]? = some (.cells #[.pointer (some ⟨b, 0, none⟩), v] 136 (0, 0)) := by
    rw [hgrow.block b (by simp; omega) (fun e => hne e.symm), Lib.alloc_old w1 _ b hlt]
    exact hbk
  have d0 : w2.cell? ⟨b, 0, none⟩ = some (.pointer (some ⟨b, 0, none⟩)) := by rw [Lib.cell_of_heap hb2]; rfl
  have d1 : w2.cell? ⟨b, 1, none⟩ = some v := by rw [Lib.cell_of_heap hb2]; rfl
  have fr1 : w2.frozen? ⟨b, 1, none⟩ = false := Lib.frozen_of_heap hb2 1
  obtain ⟨g, cap, rfl⟩ : ∃ g cap, v' = .slice (some ⟨g, 0, none⟩) (xs.length + 1) cap := by
    rcases hown'.2 with ⟨_, h0⟩ | ⟨g, cap, cur, fz, hv, _⟩
    · omega
    · exact ⟨g, cap, hv⟩
  go_wp2
  go_ret
  refine ⟨rfl, BdTo.put (w1 := w1.alloc _) (by decide) (by simp; omega) ((Lib.alloc_old w1 _ b hlt).trans hbk) ⟨f1, f2, f3, fun k hk hkb => (Lib.alloc_old w1 _ k (by omega)).trans (f5 k hkb)⟩ hne (by simpa using hown') hgrow (by simp) hnew⟩
def strings_Builder_WriteByte.f (v : Nat) (b : ByteArray) (c : Int) : Option (Nat × ByteArray) := if b.size + 1 ≤ 140737488355328 ∧ 0 ≤ c ∧ c < 256 then some (v + 1, b.push (UInt8.ofNat c.toNat)) else none
theorem strings_Builder_WriteByte.ok (v : Nat) (b : ByteArray) (c : Int) (r : Nat × ByteArray) (h : strings_Builder_WriteByte.f v b c = some r) :
    Ct Tryz.prog B 117 [.ref 100000 0 0 0 2, .int .u8 c] (ofL [(100000, .bx 136 1100000 v b.size), (1100000, .bb 5 v b)]) .bad (ofL [(100000, .bx 136 1100000 r.1 r.2.size), (1100000, .bb 5 r.1 r.2)]) := by
  unfold strings_Builder_WriteByte.f at h
  split at h
  case isFalse => cases h
  case isTrue hc =>
  cases h
  refine @Ct.bd Tryz.prog B 117 136 5 100000 1100000 v b (b.push (UInt8.ofNat c.toNat)) [.int .u8 c] [.int .u8 c] .nilIface .bad (by omega) Tryz.call117 rfl (fun _ _ _ => R.bad _) fun k x w hF => ?_
  have := bdWriteByte c hF (by rw [Lib.strCells_length]; exact hc.1)
  rw [strCells_push b hc.2.1 hc.2.2]
  exact this

/-! ### key_read_1: function 113 -/
def key_read_1.k0 : List DK := [⟨[0, 5], [300000, 1300000, 300000, 1300000], [6], [300000, 1300000]⟩, ⟨[3, 4], [700001, 700001], [5], []⟩, ⟨[2], [300002, 1300002, 300002, 1300002], [4], [300002, 1300002]⟩, ⟨[1], [300001], [3], []⟩]
def key_read_1.k1 : List Nat := [0, 0, 3, 7]
def key_read_1.f (v0v : Nat) (v0 : ByteArray) (v1 : List (ByteArray × ByteArray)) (v2v : Nat) (v2 : ByteArray) : Option (Nat × ByteArray × Nat × ByteArray) := ((strings_Builder_String.f v2v v2).bind fun r1 => ((key_signOf.f v1 r1.2).bind fun r2 => ((strings_Builder_WriteString.f v0v v0 r2).bind fun r3 => ((strings_Builder_Reset.f r1.1 r1.2).bind fun r4 => Option.some (r3.1, r3.2, r4.1, r4.2)))))
theorem key_read_1.ok (v0v : Nat) (v0 : ByteArray) (v1 : List (ByteArray × ByteArray)) (v2v : Nat) (v2 : ByteArray) (r : Nat × ByteArray × Nat × ByteArray) (h : key_read_1.f v0v v0 v1 v2v v2 = some r) : Ct Tryz.prog B 113 [.ref 300000 0 0 0 2, .ref 300001 0 0 0 1, .ref 300002 0 0 0 2] (ofL [(300000, .bx 136 1300000 v0v v0.size), (1300000, .bb 5 v0v v0), (300001, .box [.omap 700001]), (700001, mapE KL.strs (ByteArray.empty : ByteArray) AV.str v1), (300002, .bx 136 1300002 v2v v2.size), (1300002, .bb 5 v2v v2)]) (.tup []) (ofL [(300001, .box [.omap 700001]), (700001, mapE KL.strs (ByteArray.empty : ByteArray) AV.str v1), (300000, .bx 136 1300000 r.1 r.2.1.size), (1300000, .bb 5 r.1 r.2.1), (300002, .bx 136 1300002 r.2.2.1 r.2.2.2.size), (1300002, .bb 5 r.2.2.1 r.2.2.2)]) := by
  refine Ct.of (Y := (fam Tryz.f113 [] [] [(300000, .bx 136 1300000 v0v v0.size), (1300000, .bb 5 v0v v0), (300001, .box [.omap 700001]), (700001, mapE KL.strs (ByteArray.empty : ByteArray) AV.str v1), (300002, .bx 136 1300002 v2v v2.size), (1300002, .bb 5 v2v v2)] (fun r : Nat × ByteArray × Nat × ByteArray => .tup []) (fun r => [(300001, .box [.omap 700001]), (700001, mapE KL.strs (ByteArray.empty : ByteArray) AV.str v1), (300000, .bx 136 1300000 r.1 r.2.1.size), (1300000, .bb 5 r.1 r.2.1), (300002, .bx 136 1300002 r.2.2.1 r.2.2.2.size), (1300002, .bb 5 r.2.2.1 r.2.2.2)]))) Tryz.func113 rfl Tryz.call113 rfl rfl ?_ r h
  unfold key_read_1.f
  refine RS.go ?_
  refine RT.goto rfl ?_
  refine RS.draw rfl ?_
  refine RD.call (CR := []) (CW := (fun r => [(100000, .bx 136 1100000 r.1 r.2.size), (1100000, .bb 5 r.1 r.2)])) rfl (fun _ h => strings_Builder_String.ok v2v v2 _ h) (fun i => bif Nat.beq i 1100000 then 1300002 else bif Nat.beq i 100000 then 300002 else i) trivial (fun _ => rfl) ⟨_, _, _, _, rfl, rfl, rfl⟩ (LeL.eq rfl) ⟨⟨_, rfl, LeO.refl _⟩, ⟨⟨_, rfl, LeO.refl _⟩, trivial⟩⟩ (fun _ => rfl) (fun r1 => ?_)
  refine RD.call (CR := [(100000, mapE KL.strs (ByteArray.empty : ByteArray) AV.str v1)]) (CW := (fun r => [])) rfl (fun _ h => key_signOf.ok v1 r1.2 _ h) (fun i => bif Nat.beq i 100000 then 700001 else i) ⟨rfl, trivial⟩ (fun _ => rfl) ⟨_, _, _, _, rfl, rfl, rfl⟩ (LeL.eq rfl) ⟨⟨_, rfl, LeO.refl _⟩, trivial⟩ (fun _ => rfl) (fun r2 => ?_)
  refine RD.call (CR := []) (CW := (fun r => [(100000, .bx 136 1100000 r.1 r.2.size), (1100000, .bb 5 r.1 r.2)])) rfl (fun _ h => strings_Builder_WriteString.ok v0v v0 r2 _ h) (fun i => bif Nat.beq i 1100000 then 1300000 else bif Nat.beq i 100000 then 300000 else i) trivial (fun _ => rfl) ⟨_, _, _, _, rfl, rfl, rfl⟩ (LeL.eq rfl) ⟨⟨_, rfl, LeO.refl _⟩, ⟨⟨_, rfl, LeO.refl _⟩, trivial⟩⟩ (fun _ => rfl) (fun r3 => ?_)
  refine RD.fin key_read_1.k0 key_read_1.k1 rfl rfl (by decide +kernel) ?_
  refine RS.go ?_
  refine RT.call rfl (fun _ h => strings_Builder_Reset.ok r1.1 r1.2 _ h) (fun i => bif Nat.beq i 1100000 then 1300002 else bif Nat.beq i 100000 then 300002 else i) (LeL.eq rfl) ⟨⟨_, rfl, LeO.refl _⟩, ⟨⟨_, rfl, LeO.refl _⟩, trivial⟩⟩ (fun _ => rfl) (fun r4 => ?_)
  refine RS.go ?_
  exact RT.done rfl rfl (Le.tup (LeL.nil)) ⟨⟨_, rfl, LeO.refl _⟩, ⟨⟨_, rfl, LeO.refl _⟩, ⟨⟨_, rfl, LeO.refl _⟩, ⟨⟨_, rfl, LeO.refl _⟩, ⟨⟨_, rfl, LeO.refl _⟩, ⟨⟨_, rfl, LeO.refl _⟩, trivial⟩⟩⟩⟩⟩⟩ rfl (dom_of rfl)
/-! ### key_read: function 58 -/
mutual
def key_read.j17 : Nat → List Int → Int → Int → List (ByteArray × ByteArray) → Nat → ByteArray → Nat → ByteArray → Option (ByteArray)
  | 0, _, _, _, _, _, _, _, _ => Option.none
  | k + 1, l0, a1, x17, o13, v1000006j17, o1000006j17, v1000007j17, o1000007j17 => key_read.l0 k l0 a1 (wrap64 (x17 + 1)) o13 v1000006j17 o1000006j17 v1000007j17 o1000007j17
def key_read.l0 : Nat → List Int → Int → Int → List (ByteArray × ByteArray) → Nat → ByteArray → Nat → ByteArray → Option (ByteArray)
  | 0, _, _, _, _, _, _, _, _ => Option.none
  | k + 1, l0, a1, x17, o13, v1000006, o1000006, v1000007, o1000007 => (if x17 < (l0.length : Int) then (if 0 ≤ x17 then (if x17 < (l0.length : Int) then ((key_isMark.f x17).bind fun r4 => ((key_nearest.f k (rd l0 x17) a1 r4).bind fun r5 => ((key_isMark.f x17).bind fun r6 => (if r6 = true then (if r5.1 = 1 then ((strings_Builder_WriteByte.f v1000007 o1000007 46).bind fun r7 => key_read.j17 k l0 a1 x17 o13 v1000006 o1000006 r7.1 r7.2) else ((key_isMark.f x17).bind fun r8 => (if r8 = true then ((strings_Builder_WriteByte.f v1000007 o1000007 45).bind fun r9 => key_read.j17 k l0 a1 x17 o13 v1000006 o1000006 r9.1 r9.2) else (if r5.1 = 3 then ((key_read_1.f v1000006 o1000006 o13 v1000007 o1000007).bind fun r10 => key_read.j17 k l0 a1 x17 o13 r10.1 r10.2.1 r10.2.2.1 r10.2.2.2) else (if r5.1 = 7 then ((key_read_1.f v1000006 o1000006 o13 v1000007 o1000007).bind fun r11 => ((strings_Builder_WriteByte.f r11.1 r11.2.1 32).bind fun r12 => key_read.j17 k l0 a1 x17 o13 r12.1 r12.2 r11.2.2.1 r11.2.2.2)) else key_read.j17 k l0 a1 x17 o13 v1000006 o1000006 v1000007 o1000007))))) else ((key_isMark.f x17).bind fun r17 => (if r17 = true then ((strings_Builder_WriteByte.f v1000007 o1000007 45).bind fun r18 => key_read.j17 k l0 a1 x17 o13 v1000006 o1000006 r18.1 r18.2) else (if r5.1 = 3 then ((key_read_1.f v1000006 o1000006 o13 v1000007 o1000007).bind fun r19 => key_read.j17 k l0 a1 x17 o13 r19.1 r19.2.1 r19.2.2.1 r19.2.2.2) else (if r5.1 = 7 then ((key_read_1.f v1000006 o1000006 o13 v1000007 o1000007).bind fun r20 => ((strings_Builder_WriteByte.f r20.1 r20.2.1 32).bind fun r21 => key_read.j17 k l0 a1 x17 o13 r21.1 r21.2 r20.2.2.1 r20.2.2.2)) else key_read.j17 k l0 a1 x17 o13 v1000006 o1000006 v1000007 o1000007)))))))) else Option.none) else Option.none) else ((key_read_1.f v1000006 o1000006 o13 v1000007 o1000007).bind fun r26 => ((strings_Builder_String.f r26.1 r26.2.1).bind fun r27 => Option.some r27.2)))
end
def key_read.f (k : Nat) (l0 : List Int) (a1 : Int) : Option (ByteArray) := ((key_byCodes.f k ).bind fun r1 => key_read.l0 k l0 a1 0 r1 0 ByteArray.empty 0 ByteArray.empty)
theorem key_read.loops : ∀ k, (∀ (l0 : List Int) (a1 : Int) (x17 : Int) (o13 : List (ByteArray × ByteArray)) (v1000006j17 : Nat) (o1000006j17 : ByteArray) (v1000007j17 : Nat) (o1000007j17 : ByteArray), RS (fam Tryz.f58 [17] [] [] (fun r : ByteArray => .str r) (fun r => [])) (Func.reg Tryz.f58 17) ⟨ofT [(1, .int .i64 a1), (6, .ref 6 0 0 0 2), (7, .ref 7 0 0 0 2), (8, .fn 113 [.ref 6 0 0 0 2, .ref 5 0 0 0 1, .ref 7 0 0 0 2]), (15, sq eI l0), (16, .int .i64 (l0.length : Int)), (17, .int .i64 x17)], ofL [(5, .box [.omap 13]), (6, .bx 136 1000006 v1000006j17 o1000006j17.size), (7, .bx 136 1000007 v1000007j17 o1000007j17.size), (13, mapE KL.strs (ByteArray.empty : ByteArray) AV.str o13), (1000006, .bb 5 v1000006j17 o1000006j17), (1000007, .bb 5 v1000007j17 o1000007j17)]⟩ (key_read.j17 k l0 a1 x17 o13 v1000006j17 o1000006j17 v1000007j17 o1000007j17)) ∧ (∀ (l0 : List Int) (a1 : Int) (x17 : Int) (o13 : List (ByteArray × ByteArray)) (v1000006 : Nat) (o1000006 : ByteArray) (v1000007 : Nat) (o1000007 : ByteArray), RS (fam Tryz.f58 [17] [] [] (fun r : ByteArray => .str r) (fun r => [])) (Func.head Tryz.f58 0) ⟨ofT [(1, .int .i64 a1), (6, .ref 6 0 0 0 2), (7, .ref 7 0 0 0 2), (8, .fn 113 [.ref 6 0 0 0 2, .ref 5 0 0 0 1, .ref 7 0 0 0 2]), (15, sq eI l0), (16, .int .i64 (l0.length : Int)), (17, .int .i64 x17)], ofL [(5, .box [.omap 13]), (6, .bx 136 1000006 v1000006 o1000006.size), (7, .bx 136 1000007 v1000007 o1000007.size), (13, mapE KL.strs (ByteArray.empty : ByteArray) AV.str o13), (1000006, .bb 5 v1000006 o1000006), (1000007, .bb 5 v1000007 o1000007)]⟩ (key_read.l0 k l0 a1 x17 o13 v1000006 o1000006 v1000007 o1000007))
  | 0 => ⟨by intro _ _ _ _ _ _ _ _; simp only [key_read.j17]; exact RS.none, by intro _ _ _ _ _ _ _ _; simp only [key_read.l0]; exact RS.none⟩
  | k + 1 => by
    have ih := key_read.loops k
    refine ⟨?_, ?_⟩
    · intro l0 a1 x17 o13 v1000006j17 o1000006j17 v1000007j17 o1000007j17
      simp only [key_read.j17]
      refine RS.region ?_
      refine RS.go ?_
      refine RT.goto rfl ?_
      refine RS.weak [(1, .int .i64 a1), (6, .ref 6 0 0 0 2), (7, .ref 7 0 0 0 2), (8, .fn 113 [.ref 6 0 0 0 2, .ref 5 0 0 0 1, .ref 7 0 0 0 2]), (15, sq eI l0), (16, .int .i64 (l0.length : Int)), (17, .int .i64 (wrap64 (x17 + 1)))] [(5, .box [.omap 13]), (6, .bx 136 1000006 v1000006j17 o1000006j17.size), (7, .bx 136 1000007 v1000007j17 o1000007j17.size), (13, mapE KL.strs (ByteArray.empty : ByteArray) AV.str o13), (1000006, .bb 5 v1000006j17 o1000006j17), (1000007, .bb 5 v1000007j17 o1000007j17)] ⟨Le.eq (by first | rfl | simp), Le.eq (by first | rfl | simp), Le.eq (by first | rfl | simp), Le.eq (by first | rfl | simp), Le.eq (by first | rfl | simp), Le.eq (by first | rfl | simp), Le.eq (by first | rfl | simp), trivial⟩ ⟨⟨_, rfl, LeO.refl _⟩, ⟨_, rfl, LeO.refl _⟩, ⟨_, rfl, LeO.refl _⟩, ⟨_, rfl, LeO.refl _⟩, ⟨_, rfl, LeO.refl _⟩, ⟨_, rfl, LeO.refl _⟩, trivial⟩ rfl (dom0 rfl) ?_
      exact ih.2 l0 a1 (wrap64 (x17 + 1)) o13 v1000006j17 o1000006j17 v1000007j17 o1000007j17 
    · intro l0 a1 x17 o13 v1000006 o1000006 v1000007 o1000007
      simp only [key_read.l0]
      refine RS.go ?_
      refine RT.br rfl (fun c28 => ?_) (fun c28 => ?_)
      · refine RT.br rfl (fun c2 => ?_) (fun c2 => RT.none)
        refine RT.br rfl (fun c3 => ?_) (fun c3 => RT.none)
        refine RT.call0 rfl (fun _ h => key_isMark.ok x17 _ h) (LeL.eq rfl) (fun _ => rfl) (fun r4 => ?_)
        refine RS.go ?_
        refine RT.call0 rfl (fun _ h => key_nearest.ok k (rd l0 x17) a1 r4 _ h) (LeL.eq rfl) (fun _ => rfl) (fun r5 => ?_)
        refine RS.go ?_
        refine RT.call0 rfl (fun _ h => key_isMark.ok x17 _ h) (LeL.eq rfl) (fun _ => rfl) (fun r6 => ?_)
        refine RS.go ?_
        refine RT.brB rfl (fun c25 => ?_) (fun c25 => ?_)
        · refine RT.brT rfl ?_
          refine RT.brT rfl ?_
          refine RT.br rfl (fun c16 => ?_) (fun c16 => ?_)
          · refine RT.call rfl (fun _ h => strings_Builder_WriteByte.ok v1000007 o1000007 46 _ h) (fun i => bif Nat.beq i 1100000 then 1000007 else bif Nat.beq i 100000 then 7 else i) (LeL.eq rfl) ⟨⟨_, rfl, LeO.refl _⟩, ⟨⟨_, rfl, LeO.refl _⟩, trivial⟩⟩ (fun _ => rfl) (fun r7 => ?_)
            refine RS.go ?_
            refine RT.goto rfl ?_
            refine RS.weak [(1, .int .i64 a1), (6, .ref 6 0 0 0 2), (7, .ref 7 0 0 0 2), (8, .fn 113 [.ref 6 0 0 0 2, .ref 5 0 0 0 1, .ref 7 0 0 0 2]), (15, sq eI l0), (16, .int .i64 (l0.length : Int)), (17, .int .i64 x17)] [(5, .box [.omap 13]), (6, .bx 136 1000006 v1000006 o1000006.size), (7, .bx 136 1000007 r7.1 r7.2.size), (13, mapE KL.strs (ByteArray.empty : ByteArray) AV.str o13), (1000006, .bb 5 v1000006 o1000006), (1000007, .bb 5 r7.1 r7.2)] ⟨Le.eq (by first | rfl | simp), Le.eq (by first | rfl | simp), Le.eq (by first | rfl | simp), Le.eq (by first | rfl | simp), Le.eq (by first | rfl | simp), Le.eq (by first | rfl | simp), Le.eq (by first | rfl | simp), trivial⟩ ⟨⟨_, rfl, LeO.refl _⟩, ⟨_, rfl, LeO.refl _⟩, ⟨_, rfl, LeO.refl _⟩, ⟨_, rfl, LeO.refl _⟩, ⟨_, rfl, LeO.refl _⟩, ⟨_, rfl, LeO.refl _⟩, trivial⟩ rfl (dom0 rfl) ?_
            exact ih.1 l0 a1 x17 o13 v1000006 o1000006 r7.1 r7.2 
          · refine RT.call0 rfl (fun _ h => key_isMark.ok x17 _ h) (LeL.eq rfl) (fun _ => rfl) (fun r8 => ?_)
            refine RS.go ?_
            refine RT.brB rfl (fun c15 => ?_) (fun c15 => ?_)
            · refine RT.call rfl (fun _ h => strings_Builder_WriteByte.ok v1000007 o1000007 45 _ h) (fun i => bif Nat.beq i 1100000 then 1000007 else bif Nat.beq i 100000 then 7 else i) (LeL.eq rfl) ⟨⟨_, rfl, LeO.refl _⟩, ⟨⟨_, rfl, LeO.refl _⟩, trivial⟩⟩ (fun _ => rfl) (fun r9 => ?_)
              refine RS.go ?_
              refine RT.goto rfl ?_
              refine RS.weak [(1, .int .i64 a1), (6, .ref 6 0 0 0 2), (7, .ref 7 0 0 0 2), (8, .fn 113 [.ref 6 0 0 0 2, .ref 5 0 0 0 1, .ref 7 0 0 0 2]), (15, sq eI l0), (16, .int .i64 (l0.length : Int)), (17, .int .i64 x17)] [(5, .box [.omap 13]), (6, .bx 136 1000006 v1000006 o1000006.size), (7, .bx 136 1000007 r9.1 r9.2.size), (13, mapE KL.strs (ByteArray.empty : ByteArray) AV.str o13), (1000006, .bb 5 v1000006 o1000006), (1000007, .bb 5 r9.1 r9.2)] ⟨Le.eq (by first | rfl | simp), Le.eq (by first | rfl | simp), Le.eq (by first | rfl | simp), Le.eq (by first | rfl | simp), Le.eq (by first | rfl | simp), Le.eq (by first | rfl | simp), Le.eq (by first | rfl | simp), trivial⟩ ⟨⟨_, rfl, LeO.refl _⟩, ⟨_, rfl, LeO.refl _⟩, ⟨_, rfl, LeO.refl _⟩, ⟨_, rfl, LeO.refl _⟩, ⟨_, rfl, LeO.refl _⟩, ⟨_, rfl, LeO.refl _⟩, trivial⟩ rfl (dom0 rfl) ?_
              exact ih.1 l0 a1 x17 o13 v1000006 o1000006 r9.1 r9.2 
            · refine RT.br rfl (fun c14 => ?_) (fun c14 => ?_)
              · refine RT.call rfl (fun _ h => key_read_1.ok v1000006 o1000006 o13 v1000007 o1000007 _ h) (fun i => bif Nat.beq i 1300002 then 1000007 else bif Nat.beq i 300002 then 7 else bif Nat.beq i 700001 then 13 else bif Nat.beq i 300001 then 5 else bif Nat.beq i 1300000 then 1000006 else bif Nat.beq i 300000 then 6 else i) (LeL.eq rfl) ⟨⟨_, rfl, LeO.refl _⟩, ⟨⟨_, rfl, LeO.refl _⟩, ⟨⟨_, rfl, LeO.refl _⟩, ⟨⟨_, rfl, LeO.refl _⟩, ⟨⟨_, rfl, LeO.refl _⟩, ⟨⟨_, rfl, LeO.refl _⟩, trivial⟩⟩⟩⟩⟩⟩ (fun _ => rfl) (fun r10 => ?_)
                refine RS.go ?_
                refine RT.goto rfl ?_
                refine RS.weak [(1, .int .i64 a1), (6, .ref 6 0 0 0 2), (7, .ref 7 0 0 0 2), (8, .fn 113 [.ref 6 0 0 0 2, .ref 5 0 0 0 1, .ref 7 0 0 0 2]), (15, sq eI l0), (16, .int .i64 (l0.length : Int)), (17, .int .i64 x17)] [(5, .box [.omap 13]), (6, .bx 136 1000006 r10.1 r10.2.1.size), (7, .bx 136 1000007 r10.2.2.1 r10.2.2.2.size), (13, mapE KL.strs (ByteArray.empty : ByteArray) AV.str o13), (1000006, .bb 5 r10.1 r10.2.1), (1000007, .bb 5 r10.2.2.1 r10.2.2.2)] ⟨Le.eq (by first | rfl | simp), Le.eq (by first | rfl | simp), Le.eq (by first | rfl | simp), Le.eq (by first | rfl | simp), Le.eq (by first | rfl | simp), Le.eq (by first | rfl | simp), Le.eq (by first | rfl | simp), trivial⟩ ⟨⟨_, rfl, LeO.refl _⟩, ⟨_, rfl, LeO.refl _⟩, ⟨_, rfl, LeO.refl _⟩, ⟨_, rfl, LeO.refl _⟩, ⟨_, rfl, LeO.refl _⟩, ⟨_, rfl, LeO.refl _⟩, trivial⟩ rfl (dom0 rfl) ?_
                exact ih.1 l0 a1 x17 o13 r10.1 r10.2.1 r10.2.2.1 r10.2.2.2 
              · refine RT.br rfl (fun c13 => ?_) (fun c13 => ?_)
                · refine RT.call rfl (fun _ h => key_read_1.ok v1000006 o1000006 o13 v1000007 o1000007 _ h) (fun i => bif Nat.beq i 1300002 then 1000007 else bif Nat.beq i 300002 then 7 else bif Nat.beq i 700001 then 13 else bif Nat.beq i 300001 then 5 else bif Nat.beq i 1300000 then 1000006 else bif Nat.beq i 300000 then 6 else i) (LeL.eq rfl) ⟨⟨_, rfl, LeO.refl _⟩, ⟨⟨_, rfl, LeO.refl _⟩, ⟨⟨_, rfl, LeO.refl _⟩, ⟨⟨_, rfl, LeO.refl _⟩, ⟨⟨_, rfl, LeO.refl _⟩, ⟨⟨_, rfl, LeO.refl _⟩, trivial⟩⟩⟩⟩⟩⟩ (fun _ => rfl) (fun r11 => ?_)
                  refine RS.go ?_
                  refine RT.call rfl (fun _ h => strings_Builder_WriteByte.ok r11.1 r11.2.1 32 _ h) (fun i => bif Nat.beq i 1100000 then 1000006 else bif Nat.beq i 100000 then 6 else i) (LeL.eq rfl) ⟨⟨_, rfl, LeO.refl _⟩, ⟨⟨_, rfl, LeO.refl _⟩, trivial⟩⟩ (fun _ => rfl) (fun r12 => ?_)
                  refine RS.go ?_
                  refine RT.goto rfl ?_
                  refine RS.weak [(1, .int .i64 a1), (6, .ref 6 0 0 0 2), (7, .ref 7 0 0 0 2), (8, .fn 113 [.ref 6 0 0 0 2, .ref 5 0 0 0 1, .ref 7 0 0 0 2]), (15, sq eI l0), (16, .int .i64 (l0.length : Int)), (17, .int .i64 x17)] [(5, .box [.omap 13]), (6, .bx 136 1000006 r12.1 r12.2.size), (7, .bx 136 1000007 r11.2.2.1 r11.2.2.2.size), (13, mapE KL.strs (ByteArray.empty : ByteArray) AV.str o13), (1000006, .bb 5 r12.1 r12.2), (1000007, .bb 5 r11.2.2.1 r11.2.2.2)] ⟨Le.eq (by first | rfl | simp), Le.eq (by first | rfl | simp), Le.eq (by first | rfl | simp), Le.eq (by first | rfl | simp), Le.eq (by first | rfl | simp), Le.eq (by first | rfl | simp), Le.eq (by first | rfl | simp), trivial⟩ ⟨⟨_, rfl, LeO.refl _⟩, ⟨_, rfl, LeO.refl _⟩, ⟨_, rfl, LeO.refl _⟩, ⟨_, rfl, LeO.refl _⟩, ⟨_, rfl, LeO.refl _⟩, ⟨_, rfl, LeO.refl _⟩, trivial⟩ rfl (dom0 rfl) ?_
                  exact ih.1 l0 a1 x17 o13 r12.1 r12.2 r11.2.2.1 r11.2.2.2 
                · refine RT.goto rfl ?_
                  refine RS.weak [(1, .int .i64 a1), (6, .ref 6 0 0 0 2), (7, .ref 7 0 0 0 2), (8, .fn 113 [.ref 6 0 0 0 2, .ref 5 0 0 0 1, .ref 7 0 0 0 2]), (15, sq eI l0), (16, .int .i64 (l0.length : Int)), (17, .int .i64 x17)] [(5, .box [.omap 13]), (6, .bx 136 1000006 v1000006 o1000006.size), (7, .bx 136 1000007 v1000007 o1000007.size), (13, mapE KL.strs (ByteArray.empty : ByteArray) AV.str o13), (1000006, .bb 5 v1000006 o1000006), (1000007, .bb 5 v1000007 o1000007)] ⟨Le.eq (by first | rfl | simp), Le.eq (by first | rfl | simp), Le.eq (by first | rfl | simp), Le.eq (by first | rfl | simp), Le.eq (by first | rfl | simp), Le.eq (by first | rfl | simp), Le.eq (by first | rfl | simp), trivial⟩ ⟨⟨_, rfl, LeO.refl _⟩, ⟨_, rfl, LeO.refl _⟩, ⟨_, rfl, LeO.refl _⟩, ⟨_, rfl, LeO.refl _⟩, ⟨_, rfl, LeO.refl _⟩, ⟨_, rfl, LeO.refl _⟩, trivial⟩ rfl (dom0 rfl) ?_
                  exact ih.1 l0 a1 x17 o13 v1000006 o1000006 v1000007 o1000007 
        · refine RT.brF rfl ?_
          refine RT.brF rfl ?_
          refine RT.brF rfl ?_
          refine RT.call0 rfl (fun _ h => key_isMark.ok x17 _ h) (LeL.eq rfl) (fun _ => rfl) (fun r17 => ?_)
          refine RS.go ?_
          refine RT.brB rfl (fun c24 => ?_) (fun c24 => ?_)
          · refine RT.call rfl (fun _ h => strings_Builder_WriteByte.ok v1000007 o1000007 45 _ h) (fun i => bif Nat.beq i 1100000 then 1000007 else bif Nat.beq i 100000 then 7 else i) (LeL.eq rfl) ⟨⟨_, rfl, LeO.refl _⟩, ⟨⟨_, rfl, LeO.refl _⟩, trivial⟩⟩ (fun _ => rfl) (fun r18 => ?_)
            refine RS.go ?_
            refine RT.goto rfl ?_
            refine RS.weak [(1, .int .i64 a1), (6, .ref 6 0 0 0 2), (7, .ref 7 0 0 0 2), (8, .fn 113 [.ref 6 0 0 0 2, .ref 5 0 0 0 1, .ref 7 0 0 0 2]), (15, sq eI l0), (16, .int .i64 (l0.length : Int)), (17, .int .i64 x17)] [(5, .box [.omap 13]), (6, .bx 136 1000006 v1000006 o1000006.size), (7, .bx 136 1000007 r18.1 r18.2.size), (13, mapE KL.strs (ByteArray.empty : ByteArray) AV.str o13), (1000006, .bb 5 v1000006 o1000006), (1000007, .bb 5 r18.1 r18.2)] ⟨Le.eq (by first | rfl | simp), Le.eq (by first | rfl | simp), Le.eq (by first | rfl | simp), Le.eq (by first | rfl | simp), Le.eq (by first | rfl | simp), Le.eq (by first | rfl | simp), Le.eq (by first | rfl | simp), trivial⟩ ⟨⟨_, rfl, LeO.refl _⟩, ⟨_, rfl, LeO.refl _⟩, ⟨_, rfl, LeO.refl _⟩, ⟨_, rfl, LeO.refl _⟩, ⟨_, rfl, LeO.refl _⟩, ⟨_, rfl, LeO.refl _⟩, trivial⟩ rfl (dom0 rfl) ?_
            exact ih.1 l0 a1 x17 o13 v1000006 o1000006 r18.1 r18.2 
          · refine RT.br rfl (fun c23 => ?_) (fun c23 => ?_)
            · refine RT.call rfl (fun _ h => key_read_1.ok v1000006 o1000006 o13 v1000007 o1000007 _ h) (fun i => bif Nat.beq i 1300002 then 1000007 else bif Nat.beq i 300002 then 7 else bif Nat.beq i 700001 then 13 else bif Nat.beq i 300001 then 5 else bif Nat.beq i 1300000 then 1000006 else bif Nat.beq i 300000 then 6 else i) (LeL.eq rfl) ⟨⟨_, rfl, LeO.refl _⟩, ⟨⟨_, rfl, LeO.refl _⟩, ⟨⟨_, rfl, LeO.refl _⟩, ⟨⟨_, rfl, LeO.refl _⟩, ⟨⟨_, rfl, LeO.refl _⟩, ⟨⟨_, rfl, LeO.refl _⟩, trivial⟩⟩⟩⟩⟩⟩ (fun _ => rfl) (fun r19 => ?_)
              refine RS.go ?_
              refine RT.goto rfl ?_
              refine RS.weak [(1, .int .i64 a1), (6, .ref 6 0 0 0 2), (7, .ref 7 0 0 0 2), (8, .fn 113 [.ref 6 0 0 0 2, .ref 5 0 0 0 1, .ref 7 0 0 0 2]), (15, sq eI l0), (16, .int .i64 (l0.length : Int)), (17, .int .i64 x17)] [(5, .box [.omap 13]), (6, .bx 136 1000006 r19.1 r19.2.1.size), (7, .bx 136 1000007 r19.2.2.1 r19.2.2.2.size), (13, mapE KL.strs (ByteArray.empty : ByteArray) AV.str o13), (1000006, .bb 5 r19.1 r19.2.1), (1000007, .bb 5 r19.2.2.1 r19.2.2.2)] ⟨Le.eq (by first | rfl | simp), Le.eq (by first | rfl | simp), Le.eq (by first | rfl | simp), Le.eq (by first | rfl | simp), Le.eq (by first | rfl | simp), Le.eq (by first | rfl | simp), Le.eq (by first | rfl | simp), trivial⟩ ⟨⟨_, rfl, LeO.refl _⟩, ⟨_, rfl, LeO.refl _⟩, ⟨_, rfl, LeO.refl _⟩, ⟨_, rfl, LeO.refl _⟩, ⟨_, rfl, LeO.refl _⟩, ⟨_, rfl, LeO.refl _⟩, trivial⟩ rfl (dom0 rfl) ?_
              exact ih.1 l0 a1 x17 o13 r19.1 r19.2.1 r19.2.2.1 r19.2.2.2 
            · refine RT.br rfl (fun c22 => ?_) (fun c22 => ?_)
              · refine RT.call rfl (fun _ h => key_read_1.ok v1000006 o1000006 o13 v1000007 o1000007 _ h) (fun i => bif Nat.beq i 1300002 then 1000007 else bif Nat.beq i 300002 then 7 else bif Nat.beq i 700001 then 13 else bif Nat.beq i 300001 then 5 else bif Nat.beq i 1300000 then 1000006 else bif Nat.beq i 300000 then 6 else i) (LeL.eq rfl) ⟨⟨_, rfl, LeO.refl _⟩, ⟨⟨_, rfl, LeO.refl _⟩, ⟨⟨_, rfl, LeO.refl _⟩, ⟨⟨_, rfl, LeO.refl _⟩, ⟨⟨_, rfl, LeO.refl _⟩, ⟨⟨_, rfl, LeO.refl _⟩, trivial⟩⟩⟩⟩⟩⟩ (fun _ => rfl) (fun r20 => ?_)
                refine RS.go ?_
                refine RT.call rfl (fun _ h => strings_Builder_WriteByte.ok r20.1 r20.2.1 32 _ h) (fun i => bif Nat.beq i 1100000 then 1000006 else bif Nat.beq i 100000 then 6 else i) (LeL.eq rfl) ⟨⟨_, rfl, LeO.refl _⟩, ⟨⟨_, rfl, LeO.refl _⟩, trivial⟩⟩ (fun _ => rfl) (fun r21 => ?_)
                refine RS.go ?_
                refine RT.goto rfl ?_
                refine RS.weak [(1, .int .i64 a1), (6, .ref 6 0 0 0 2), (7, .ref 7 0 0 0 2), (8, .fn 113 [.ref 6 0 0 0 2, .ref 5 0 0 0 1, .ref 7 0 0 0 2]), (15, sq eI l0), (16, .int .i64 (l0.length : Int)), (17, .int .i64 x17)] [(5, .box [.omap 13]), (6, .bx 136 1000006 r21.1 r21.2.size), (7, .bx 136 1000007 r20.2.2.1 r20.2.2.2.size), (13, mapE KL.strs (ByteArray.empty : ByteArray) AV.str o13), (1000006, .bb 5 r21.1 r21.2), (1000007, .bb 5 r20.2.2.1 r20.2.2.2)] ⟨Le.eq (by first | rfl | simp), Le.eq (by first | rfl | simp), Le.eq (by first | rfl | simp), Le.eq (by first | rfl | simp), Le.eq (by first | rfl | simp), Le.eq (by first | rfl | simp), Le.eq (by first | rfl | simp), trivial⟩ ⟨⟨_, rfl, LeO.refl _⟩, ⟨_, rfl, LeO.refl _⟩, ⟨_, rfl, LeO.refl _⟩, ⟨_, rfl, LeO.refl _⟩, ⟨_, rfl, LeO.refl _⟩, ⟨_, rfl, LeO.refl _⟩, trivial⟩ rfl (dom0 rfl) ?_
                exact ih.1 l0 a1 x17 o13 r21.1 r21.2 r20.2.2.1 r20.2.2.2 
              · refine RT.goto rfl ?_
                refine RS.weak [(1, .int .i64 a1), (6, .ref 6 0 0 0 2), (7, .ref 7 0 0 0 2), (8, .fn 113 [.ref 6 0 0 0 2, .ref 5 0 0 0 1, .ref 7 0 0 0 2]), (15, sq eI l0), (16, .int .i64 (l0.length : Int)), (17, .int .i64 x17)] [(5, .box [.omap 13]), (6, .bx 136 1000006 v1000006 o1000006.size), (7, .bx 136 1000007 v1000007 o1000007.size), (13, mapE KL.strs (ByteArray.empty : ByteArray) AV.str o13), (1000006, .bb 5 v1000006 o1000006), (1000007, .bb 5 v1000007 o1000007)] ⟨Le.eq (by first | rfl | simp), Le.eq (by first | rfl | simp), Le.eq (by first | rfl | simp), Le.eq (by first | rfl | simp), Le.eq (by first | rfl | simp), Le.eq (by first | rfl | simp), Le.eq (by first | rfl | simp), trivial⟩ ⟨⟨_, rfl, LeO.refl _⟩, ⟨_, rfl, LeO.refl _⟩, ⟨_, rfl, LeO.refl _⟩, ⟨_, rfl, LeO.refl _⟩, ⟨_, rfl, LeO.refl _⟩, ⟨_, rfl, LeO.refl _⟩, trivial⟩ rfl (dom0 rfl) ?_
                exact ih.1 l0 a1 x17 o13 v1000006 o1000006 v1000007 o1000007 
      · refine RT.call rfl (fun _ h => key_read_1.ok v1000006 o1000006 o13 v1000007 o1000007 _ h) (fun i => bif Nat.beq i 1300002 then 1000007 else bif Nat.beq i 300002 then 7 else bif Nat.beq i 700001 then 13 else bif Nat.beq i 300001 then 5 else bif Nat.beq i 1300000 then 1000006 else bif Nat.beq i 300000 then 6 else i) (LeL.eq rfl) ⟨⟨_, rfl, LeO.refl _⟩, ⟨⟨_, rfl, LeO.refl _⟩, ⟨⟨_, rfl, LeO.refl _⟩, ⟨⟨_, rfl, LeO.refl _⟩, ⟨⟨_, rfl, LeO.refl _⟩, ⟨⟨_, rfl, LeO.refl _⟩, trivial⟩⟩⟩⟩⟩⟩ (fun _ => rfl) (fun r26 => ?_)
        refine RS.go ?_
        refine RT.call rfl (fun _ h => strings_Builder_String.ok r26.1 r26.2.1 _ h) (fun i => bif Nat.beq i 1100000 then 1000006 else bif Nat.beq i 100000 then 6 else i) (LeL.eq rfl) ⟨⟨_, rfl, LeO.refl _⟩, ⟨⟨_, rfl, LeO.refl _⟩, trivial⟩⟩ (fun _ => rfl) (fun r27 => ?_)
        refine RS.go ?_
        exact RT.done rfl rfl (Le.refl _) trivial rfl (dom0 rfl)
theorem key_read.ok (k : Nat) (l0 : List Int) (a1 : Int) (r : ByteArray) (h : key_read.f k l0 a1 = some r) : Ct Tryz.prog B 58 [sq eI l0, .int .i64 a1] (ofL []) (.str r) (ofL []) := by
  refine Ct.of (Y := (fam Tryz.f58 [17] [] [] (fun r : ByteArray => .str r) (fun r => []))) Tryz.func58 rfl Tryz.call58 rfl rfl ?_ r h
  unfold key_read.f
  refine RS.go ?_
  refine RT.call rfl (fun _ h => key_byCodes.ok k  _ h) (fun i => bif Nat.beq i 4 then 13 else i) (LeL.eq rfl) trivial (fun _ => rfl) (fun r1 => ?_)
  refine RS.go ?_
  refine RT.goto rfl ?_
  refine RS.bdnew 1000006 5 rfl ?_
  refine RS.obj 6 (.bx 136 1000006 0 ByteArray.empty.size) ⟨_, rfl, LeO.refl _⟩ ?_
  refine RS.go ?_
  refine RT.goto rfl ?_
  refine RS.bdnew 1000007 5 rfl ?_
  refine RS.obj 7 (.bx 136 1000007 0 ByteArray.empty.size) ⟨_, rfl, LeO.refl _⟩ ?_
  refine RS.go ?_
  refine RT.goto rfl ?_
  refine RS.weak [(1, .int .i64 a1), (6, .ref 6 0 0 0 2), (7, .ref 7 0 0 0 2), (8, .fn 113 [.ref 6 0 0 0 2, .ref 5 0 0 0 1, .ref 7 0 0 0 2]), (15, sq eI l0), (16, .int .i64 (l0.length : Int)), (17, .int .i64 0)] [(5, .box [.omap 13]), (6, .bx 136 1000006 0 ByteArray.empty.size), (7, .bx 136 1000007 0 ByteArray.empty.size), (13, mapE KL.strs (ByteArray.empty : ByteArray) AV.str r1), (1000006, .bb 5 0 ByteArray.empty), (1000007, .bb 5 0 ByteArray.empty)] ⟨Le.eq (by first | rfl | simp), Le.eq (by first | rfl | simp), Le.eq (by first | rfl | simp), Le.eq (by first | rfl | simp), Le.eq (by first | rfl | simp), Le.eq (by first | rfl | simp), Le.eq (by first | rfl | simp), trivial⟩ ⟨⟨_, rfl, LeO.refl _⟩, ⟨_, rfl, LeO.refl _⟩, ⟨_, rfl, LeO.refl _⟩, ⟨_, rfl, LeO.refl _⟩, ⟨_, rfl, LeO.refl _⟩, ⟨_, rfl, LeO.refl _⟩, trivial⟩ rfl (dom0 rfl) ?_
  exact (key_read.loops k).2 l0 a1 0 r1 0 ByteArray.empty 0 ByteArray.empty 
/-! ### key_offOf: function 59 -/
mutual
def key_offOf.j9 : Nat → List Int → Int → Int → Int → Int → Option (Int)
  | 0, _, _, _, _, _ => Option.none
  | k + 1, l0, a1, x5, x11, x8j9 => key_offOf.l0 k l0 a1 (wrap64 (x5 + x8j9)) (wrap64 (x11 + 1))
def key_offOf.l0 : Nat → List Int → Int → Int → Int → Option (Int)
  | 0, _, _, _, _ => Option.none
  | k + 1, l0, a1, x5, x11 => (if x11 < (l0.length : Int) then (if 0 ≤ x11 then (if x11 < (l0.length : Int) then ((key_isMark.f x11).bind fun r3 => (if r3 = true then key_offOf.j9 k l0 a1 x5 x11 (mn (mx (wrap64 ((rd l0 x11) - a1)) (wrap64 (a1 - (rd l0 x11)))) (mx (wrap64 ((rd l0 x11) - (wrap64 (3 * a1)))) (wrap64 ((wrap64 (3 * a1)) - (rd l0 x11))))) else key_offOf.j9 k l0 a1 x5 x11 (mn (mn (mx (wrap64 ((rd l0 x11) - a1)) (wrap64 (a1 - (rd l0 x11)))) (mx (wrap64 ((rd l0 x11) - (wrap64 (3 * a1)))) (wrap64 ((wrap64 (3 * a1)) - (rd l0 x11))))) (mx (wrap64 ((rd l0 x11) - (wrap64 (7 * a1)))) (wrap64 ((wrap64 (7 * a1)) - (rd l0 x11))))))) else Option.none) else Option.none) else Option.some x5)
end
def key_offOf.f (k : Nat) (l0 : List Int) (a1 : Int) : Option (Int) := key_offOf.l0 k l0 a1 0 0
theorem key_offOf.loops : ∀ k, (∀ (l0 : List Int) (a1 : Int) (x5 : Int) (x11 : Int) (x8j9 : Int), RS (fam Tryz.f59 [9] [] [] (fun r : Int => .int .i64 r) (fun r => [])) (Func.reg Tryz.f59 9) ⟨ofT [(1, .int .i64 a1), (5, .int .i64 x5), (8, .int .i64 x8j9), (9, sq eI l0), (10, .int .i64 (l0.length : Int)), (11, .int .i64 x11)], ofL []⟩ (key_offOf.j9 k l0 a1 x5 x11 x8j9)) ∧ (∀ (l0 : List Int) (a1 : Int) (x5 : Int) (x11 : Int), RS (fam Tryz.f59 [9] [] [] (fun r : Int => .int .i64 r) (fun r => [])) (Func.head Tryz.f59 0) ⟨ofT [(1, .int .i64 a1), (5, .int .i64 x5), (9, sq eI l0), (10, .int .i64 (l0.length : Int)), (11, .int .i64 x11)], ofL []⟩ (key_offOf.l0 k l0 a1 x5 x11))
  | 0 => ⟨by intro _ _ _ _ _; simp only [key_offOf.j9]; exact RS.none, by intro _ _ _ _; simp only [key_offOf.l0]; exact RS.none⟩
  | k + 1 => by
    have ih := key_offOf.loops k
    refine ⟨?_, ?_⟩
    · intro l0 a1 x5 x11 x8j9
      simp only [key_offOf.j9]
      refine RS.region ?_
      refine RS.go ?_
      refine RT.goto rfl ?_
      refine RS.weak [(1, .int .i64 a1), (5, .int .i64 (wrap64 (x5 + x8j9))), (9, sq eI l0), (10, .int .i64 (l0.length : Int)), (11, .int .i64 (wrap64 (x11 + 1)))] [] ⟨Le.eq (by first | rfl | simp), Le.eq (by first | rfl | simp), Le.eq (by first | rfl | simp), Le.eq (by first | rfl | simp), Le.eq (by first | rfl | simp), trivial⟩ trivial rfl (dom0 rfl) ?_
      exact ih.2 l0 a1 (wrap64 (x5 + x8j9)) (wrap64 (x11 + 1)) 
    · intro l0 a1 x5 x11
      simp only [key_offOf.l0]
      refine RS.go ?_
      refine RT.br rfl (fun c5 => ?_) (fun c5 => ?_)
      · refine RT.br rfl (fun c1 => ?_) (fun c1 => RT.none)
        refine RT.br rfl (fun c2 => ?_) (fun c2 => RT.none)
        refine RT.call0 rfl (fun _ h => key_isMark.ok x11 _ h) (LeL.eq rfl) (fun _ => rfl) (fun r3 => ?_)
        refine RS.go ?_
        refine RT.brBN rfl (fun c4 => ?_) (fun c4 => ?_)
        · refine RT.goto rfl ?_
          refine RS.weak [(1, .int .i64 a1), (5, .int .i64 x5), (8, .int .i64 (mn (mx (wrap64 ((rd l0 x11) - a1)) (wrap64 (a1 - (rd l0 x11)))) (mx (wrap64 ((rd l0 x11) - (wrap64 (3 * a1)))) (wrap64 ((wrap64 (3 * a1)) - (rd l0 x11)))))), (9, sq eI l0), (10, .int .i64 (l0.length : Int)), (11, .int .i64 x11)] [] ⟨Le.eq (by first | rfl | simp), Le.eq (by first | rfl | simp), Le.eq (by first | rfl | simp), Le.eq (by first | rfl | simp), Le.eq (by first | rfl | simp), Le.eq (by first | rfl | simp), trivial⟩ trivial rfl (dom0 rfl) ?_
          exact ih.1 l0 a1 x5 x11 (mn (mx (wrap64 ((rd l0 x11) - a1)) (wrap64 (a1 - (rd l0 x11)))) (mx (wrap64 ((rd l0 x11) - (wrap64 (3 * a1)))) (wrap64 ((wrap64 (3 * a1)) - (rd l0 x11))))) 
        · refine RT.goto rfl ?_
          refine RS.weak [(1, .int .i64 a1), (5, .int .i64 x5), (8, .int .i64 (mn (mn (mx (wrap64 ((rd l0 x11) - a1)) (wrap64 (a1 - (rd l0 x11)))) (mx (wrap64 ((rd l0 x11) - (wrap64 (3 * a1)))) (wrap64 ((wrap64 (3 * a1)) - (rd l0 x11))))) (mx (wrap64 ((rd l0 x11) - (wrap64 (7 * a1)))) (wrap64 ((wrap64 (7 * a1)) - (rd l0 x11)))))), (9, sq eI l0), (10, .int .i64 (l0.length : Int)), (11, .int .i64 x11)] [] ⟨Le.eq (by first | rfl | simp), Le.eq (by first | rfl | simp), Le.eq (by first | rfl | simp), Le.eq (by first | rfl | simp), Le.eq (by first | rfl | simp), Le.eq (by first | rfl | simp), trivial⟩ trivial rfl (dom0 rfl) ?_
          exact ih.1 l0 a1 x5 x11 (mn (mn (mx (wrap64 ((rd l0 x11) - a1)) (wrap64 (a1 - (rd l0 x11)))) (mx (wrap64 ((rd l0 x11) - (wrap64 (3 * a1)))) (wrap64 ((wrap64 (3 * a1)) - (rd l0 x11))))) (mx (wrap64 ((rd l0 x11) - (wrap64 (7 * a1)))) (wrap64 ((wrap64 (7 * a1)) - (rd l0 x11))))) 
      · exact RT.done rfl rfl (Le.refl _) trivial rfl (dom0 rfl)
theorem key_offOf.ok (k : Nat) (l0 : List Int) (a1 : Int) (r : Int) (h : key_offOf.f k l0 a1 = some r) : Ct Tryz.prog B 59 [sq eI l0, .int .i64 a1] (ofL []) (.int .i64 r) (ofL []) := by
  refine Ct.of (Y := (fam Tryz.f59 [9] [] [] (fun r : Int => .int .i64 r) (fun r => []))) Tryz.func59 rfl Tryz.call59 rfl rfl ?_ r h
  unfold key_offOf.f
  refine RS.go ?_
  refine RT.goto rfl ?_
  refine RS.weak [(1, .int .i64 a1), (5, .int .i64 0), (9, sq eI l0), (10, .int .i64 (l0.length : Int)), (11, .int .i64 0)] [] ⟨Le.eq (by first | rfl | simp), Le.eq (by first | rfl | simp), Le.eq (by first | rfl | simp), Le.eq (by first | rfl | simp), Le.eq (by first | rfl | simp), trivial⟩ trivial rfl (dom0 rfl) ?_
  exact (key_offOf.loops k).2 l0 a1 0 0 
/-! ### key_With: function 11 -/
def key_With.f (k : Nat) (l0 : List Int) (a1 : Int) : Option (ByteArray × Int × Int) := ((key_unitFault.f k l0 a1).bind fun r1 => (if r1 = 0 then ((key_read.f k l0 a1).bind fun r2 => ((key_offOf.f k l0 a1).bind fun r3 => Option.some (r2, r3, 0))) else Option.some ((⟨#[]⟩ : ByteArray), 0, r1)))
theorem key_With.ok (k : Nat) (l0 : List Int) (a1 : Int) (r : ByteArray × Int × Int) (h : key_With.f k l0 a1 = some r) : Ct Tryz.prog B 11 [sq eI l0, .int .i64 a1] (ofL []) (.tup [.str r.1, .int .i64 r.2.1, .int .i64 r.2.2]) (ofL []) := by
  refine Ct.of (Y := (fam Tryz.f11 [] [] [] (fun r : ByteArray × Int × Int => .tup [.str r.1, .int .i64 r.2.1, .int .i64 r.2.2]) (fun r => []))) Tryz.func11 rfl Tryz.call11 rfl rfl ?_ r h
  unfold key_With.f
  refine RS.go ?_
  refine RT.call0 rfl (fun _ h => key_unitFault.ok k l0 a1 _ h) (LeL.eq rfl) (fun _ => rfl) (fun r1 => ?_)
  refine RS.go ?_
  refine RT.brN rfl (fun c4 => ?_) (fun c4 => ?_)
  · refine RT.call0 rfl (fun _ h => key_read.ok k l0 a1 _ h) (LeL.eq rfl) (fun _ => rfl) (fun r2 => ?_)
    refine RS.go ?_
    refine RT.call0 rfl (fun _ h => key_offOf.ok k l0 a1 _ h) (LeL.eq rfl) (fun _ => rfl) (fun r3 => ?_)
    refine RS.go ?_
    exact RT.done rfl rfl (Le.tup (LeL.cons (Le.refl _) (LeL.cons (Le.refl _) (LeL.cons (Le.refl _) (LeL.nil))))) trivial rfl (dom0 rfl)
  · exact RT.done rfl rfl (Le.tup (LeL.cons (Le.refl _) (LeL.cons (Le.refl _) (LeL.cons (Le.refl _) (LeL.nil))))) trivial rfl (dom0 rfl)
/-! ### call_isLetter: function 215 -/
def call_isLetter.f (a0 : Int) : Option (Bool) := (if a0 ≥ 97 then Option.some (decide (a0 ≤ 122)) else Option.some false)
theorem call_isLetter.ok (a0 : Int) (r : Bool) (h : call_isLetter.f a0 = some r) : Ct Tryz.prog B 215 [.int .u8 a0] (ofL []) (.bool r) (ofL []) := by
  refine Ct.of (Y := (fam Tryz.f215 [] [] [] (fun r : Bool => .bool r) (fun r => []))) Tryz.func215 rfl Tryz.call215 rfl rfl ?_ r h
  unfold call_isLetter.f
  refine RS.go ?_
  refine RT.br rfl (fun c1 => ?_) (fun c1 => ?_)
  · refine RT.brT rfl ?_
    refine RT.brT rfl ?_
    exact RT.done rfl rfl (Le.refl _) trivial rfl (dom0 rfl)
  · refine RT.brF rfl ?_
    refine RT.brF rfl ?_
    exact RT.done rfl rfl (Le.refl _) trivial rfl (dom0 rfl)
/-! ### call_isDigit: function 168 -/
def call_isDigit.f (a0 : Int) : Option (Bool) := (if a0 ≥ 48 then Option.some (decide (a0 ≤ 57)) else Option.some false)
theorem call_isDigit.ok (a0 : Int) (r : Bool) (h : call_isDigit.f a0 = some r) : Ct Tryz.prog B 168 [.int .u8 a0] (ofL []) (.bool r) (ofL []) := by
  refine Ct.of (Y := (fam Tryz.f168 [] [] [] (fun r : Bool => .bool r) (fun r => []))) Tryz.func168 rfl Tryz.call168 rfl rfl ?_ r h
  unfold call_isDigit.f
  refine RS.go ?_
  refine RT.br rfl (fun c1 => ?_) (fun c1 => ?_)
  · refine RT.brT rfl ?_
    refine RT.brT rfl ?_
    exact RT.done rfl rfl (Le.refl _) trivial rfl (dom0 rfl)
  · refine RT.brF rfl ?_
    refine RT.brF rfl ?_
    exact RT.done rfl rfl (Le.refl _) trivial rfl (dom0 rfl)
/-! ### call_isPlain: function 167 -/
mutual
def call_isPlain.j8 : Nat → ByteArray → Int → Int → Option (Int × Bool)
  | 0, _, _, _ => Option.none
  | k + 1, a0, x7, x2j8 => call_isPlain.l0 k a0 x2j8 (wrap64 (x7 + 1))
def call_isPlain.l0 : Nat → ByteArray → Int → Int → Option (Int × Bool)
  | 0, _, _, _ => Option.none
  | k + 1, a0, x2, x7 => (if x7 < (a0.size : Int) then (if 0 ≤ x7 then (if x7 < (a0.size : Int) then ((call_isLetter.f (bt a0 x7)).bind fun r3 => (if r3 = true then call_isPlain.j8 k a0 x7 (wrap64 (x2 + 1)) else (if 0 ≤ x7 then (if x7 < (a0.size : Int) then ((call_isDigit.f (bt a0 x7)).bind fun r6 => (if r6 = true then call_isPlain.j8 k a0 x7 x2 else Option.some (0, false))) else Option.none) else Option.none))) else Option.none) else Option.none) else Option.some (x2, true))
end
def call_isPlain.f (k : Nat) (a0 : ByteArray) : Option (Int × Bool) := call_isPlain.l0 k a0 0 0
theorem call_isPlain.loops : ∀ k, (∀ (a0 : ByteArray) (x7 : Int) (x2j8 : Int), RS (fam Tryz.f167 [8] [] [] (fun r : Int × Bool => .tup [.int .i64 r.1, .bool r.2]) (fun r => [])) (Func.reg Tryz.f167 8) ⟨ofT [(0, .str a0), (2, .int .i64 x2j8), (6, .int .i64 (a0.size : Int)), (7, .int .i64 x7)], ofL []⟩ (call_isPlain.j8 k a0 x7 x2j8)) ∧ (∀ (a0 : ByteArray) (x2 : Int) (x7 : Int), RS (fam Tryz.f167 [8] [] [] (fun r : Int × Bool => .tup [.int .i64 r.1, .bool r.2]) (fun r => [])) (Func.head Tryz.f167 0) ⟨ofT [(0, .str a0), (2, .int .i64 x2), (6, .int .i64 (a0.size : Int)), (7, .int .i64 x7)], ofL []⟩ (call_isPlain.l0 k a0 x2 x7))
  | 0 => ⟨by intro _ _ _; simp only [call_isPlain.j8]; exact RS.none, by intro _ _ _; simp only [call_isPlain.l0]; exact RS.none⟩
  | k + 1 => by
    have ih := call_isPlain.loops k
    refine ⟨?_, ?_⟩
    · intro a0 x7 x2j8
      simp only [call_isPlain.j8]
      refine RS.region ?_
      refine RS.go ?_
      refine RT.goto rfl ?_
      refine RS.weak [(0, .str a0), (2, .int .i64 x2j8), (6, .int .i64 (a0.size : Int)), (7, .int .i64 (wrap64 (x7 + 1)))] [] ⟨Le.eq (by first | rfl | simp), Le.eq (by first | rfl | simp), Le.eq (by first | rfl | simp), Le.eq (by first | rfl | simp), trivial⟩ trivial rfl (dom0 rfl) ?_
      exact ih.2 a0 x2j8 (wrap64 (x7 + 1)) 
    · intro a0 x2 x7
      simp only [call_isPlain.l0]
      refine RS.go ?_
      refine RT.br rfl (fun c9 => ?_) (fun c9 => ?_)
      · refine RT.br rfl (fun c1 => ?_) (fun c1 => RT.none)
        refine RT.br rfl (fun c2 => ?_) (fun c2 => RT.none)
        refine RT.call0 rfl (fun _ h => call_isLetter.ok (bt a0 x7) _ h) (LeL.eq rfl) (fun _ => rfl) (fun r3 => ?_)
        refine RS.go ?_
        refine RT.brB rfl (fun c8 => ?_) (fun c8 => ?_)
        · refine RT.goto rfl ?_
          refine RS.weak [(0, .str a0), (2, .int .i64 (wrap64 (x2 + 1))), (6, .int .i64 (a0.size : Int)), (7, .int .i64 x7)] [] ⟨Le.eq (by first | rfl | simp), Le.eq (by first | rfl | simp), Le.eq (by first | rfl | simp), Le.eq (by first | rfl | simp), trivial⟩ trivial rfl (dom0 rfl) ?_
          exact ih.1 a0 x7 (wrap64 (x2 + 1)) 
        · refine RT.br rfl (fun c4 => ?_) (fun c4 => RT.none)
          refine RT.br rfl (fun c5 => ?_) (fun c5 => RT.none)
          refine RT.call0 rfl (fun _ h => call_isDigit.ok (bt a0 x7) _ h) (LeL.eq rfl) (fun _ => rfl) (fun r6 => ?_)
          refine RS.go ?_
          refine RT.brBN rfl (fun c7 => ?_) (fun c7 => ?_)
          · refine RT.goto rfl ?_
            refine RS.weak [(0, .str a0), (2, .int .i64 x2), (6, .int .i64 (a0.size : Int)), (7, .int .i64 x7)] [] ⟨Le.eq (by first | rfl | simp), Le.eq (by first | rfl | simp), Le.eq (by first | rfl | simp), Le.eq (by first | rfl | simp), trivial⟩ trivial rfl (dom0 rfl) ?_
            exact ih.1 a0 x7 x2 
          · exact RT.done rfl rfl (Le.tup (LeL.cons (Le.refl _) (LeL.cons (Le.refl _) (LeL.nil)))) trivial rfl (dom0 rfl)
      · exact RT.done rfl rfl (Le.tup (LeL.cons (Le.refl _) (LeL.cons (Le.refl _) (LeL.nil)))) trivial rfl (dom0 rfl)
theorem call_isPlain.ok (k : Nat) (a0 : ByteArray) (r : Int × Bool) (h : call_isPlain.f k a0 = some r) : Ct Tryz.prog B 167 [.str a0] (ofL []) (.tup [.int .i64 r.1, .bool r.2]) (ofL []) := by
  refine Ct.of (Y := (fam Tryz.f167 [8] [] [] (fun r : Int × Bool => .tup [.int .i64 r.1, .bool r.2]) (fun r => []))) Tryz.func167 rfl Tryz.call167 rfl rfl ?_ r h
  unfold call_isPlain.f
  refine RS.go ?_
  refine RT.goto rfl ?_
  refine RS.weak [(0, .str a0), (2, .int .i64 0), (6, .int .i64 (a0.size : Int)), (7, .int .i64 0)] [] ⟨Le.eq (by first | rfl | simp), Le.eq (by first | rfl | simp), Le.eq (by first | rfl | simp), Le.eq (by first | rfl | simp), trivial⟩ trivial rfl (dom0 rfl) ?_
  exact (call_isPlain.loops k).2 a0 0 0 
/-! ### call_split: function 165 -/
def call_split.f (k : Nat) (a0 : ByteArray) : Option (Int × Bool) := ((call_isPlain.f k a0).bind fun r1 => (if r1.2 = true then (if (a0.size : Int) > 10 then Option.some (0, false) else ((strings_LastIndexAny.f k a0 (⟨#[48, 49, 50, 51, 52, 53, 54, 55, 56, 57]⟩ : ByteArray)).bind fun r2 => (if r2 < 1 then Option.some (0, false) else (if r2 > 3 then Option.some (0, false) else (if wrap64 ((wrap64 ((a0.size : Int) - r2)) - 1) < 1 then Option.some (0, false) else (if wrap64 ((wrap64 ((a0.size : Int) - r2)) - 1) > 4 then Option.some (0, false) else (if 0 ≤ r2 then (if r2 ≤ (a0.size : Int) then ((call_isPlain.f k (a0.extract 0 (r2).toNat)).bind fun r5 => Option.some (r2, (decide (r5.1 > 0)))) else Option.none) else Option.none))))))) else Option.some (0, false)))
theorem call_split.ok (k : Nat) (a0 : ByteArray) (r : Int × Bool) (h : call_split.f k a0 = some r) : Ct Tryz.prog B 165 [.str a0] (ofL []) (.tup [.int .i64 r.1, .bool r.2]) (ofL []) := by
  refine Ct.of (Y := (fam Tryz.f165 [] [] [] (fun r : Int × Bool => .tup [.int .i64 r.1, .bool r.2]) (fun r => []))) Tryz.func165 rfl Tryz.call165 rfl rfl ?_ r h
  unfold call_split.f
  refine RS.go ?_
  refine RT.call0 rfl (fun _ h => call_isPlain.ok k a0 _ h) (LeL.eq rfl) (fun _ => rfl) (fun r1 => ?_)
  refine RS.go ?_
  refine RT.brBN rfl (fun c11 => ?_) (fun c11 => ?_)
  · refine RT.brF rfl ?_
    refine RT.brF rfl ?_
    refine RT.brF rfl ?_
    refine RT.br rfl (fun c10 => ?_) (fun c10 => ?_)
    · exact RT.done rfl rfl (Le.tup (LeL.cons (Le.refl _) (LeL.cons (Le.refl _) (LeL.nil)))) trivial rfl (dom0 rfl)
    · refine RT.call0 rfl (fun _ h => strings_LastIndexAny.ok k a0 (⟨#[48, 49, 50, 51, 52, 53, 54, 55, 56, 57]⟩ : ByteArray) _ h) (LeL.eq rfl) (fun _ => rfl) (fun r2 => ?_)
      refine RS.go ?_
      refine RT.br rfl (fun c9 => ?_) (fun c9 => ?_)
      · refine RT.brT rfl ?_
        refine RT.brT rfl ?_
        refine RT.brT rfl ?_
        refine RT.brT rfl ?_
        refine RT.brT rfl ?_
        refine RT.brT rfl ?_
        refine RT.brT rfl ?_
        refine RT.brT rfl ?_
        refine RT.brT rfl ?_
        refine RT.brT rfl ?_
        refine RT.brT rfl ?_
        refine RT.brT rfl ?_
        refine RT.brT rfl ?_
        refine RT.brT rfl ?_
        refine RT.brT rfl ?_
        refine RT.brT rfl ?_
        refine RT.brT rfl ?_
        exact RT.done rfl rfl (Le.tup (LeL.cons (Le.refl _) (LeL.cons (Le.refl _) (LeL.nil)))) trivial rfl (dom0 rfl)
      · refine RT.brF rfl ?_
        refine RT.brF rfl ?_
        refine RT.br rfl (fun c8 => ?_) (fun c8 => ?_)
        · refine RT.brT rfl ?_
          refine RT.brT rfl ?_
          refine RT.brT rfl ?_
          refine RT.brT rfl ?_
          refine RT.brT rfl ?_
          refine RT.brT rfl ?_
          refine RT.brT rfl ?_
          refine RT.brT rfl ?_
          refine RT.brT rfl ?_
          refine RT.brT rfl ?_
          refine RT.brT rfl ?_
          refine RT.brT rfl ?_
          refine RT.brT rfl ?_
          refine RT.brT rfl ?_
          exact RT.done rfl rfl (Le.tup (LeL.cons (Le.refl _) (LeL.cons (Le.refl _) (LeL.nil)))) trivial rfl (dom0 rfl)
        · refine RT.brF rfl ?_
          refine RT.brF rfl ?_
          refine RT.brF rfl ?_
          refine RT.brF rfl ?_
          refine RT.brF rfl ?_
          refine RT.brF rfl ?_
          refine RT.br rfl (fun c7 => ?_) (fun c7 => ?_)
          · refine RT.brT rfl ?_
            refine RT.brT rfl ?_
            refine RT.brT rfl ?_
            refine RT.brT rfl ?_
            refine RT.brT rfl ?_
            refine RT.brT rfl ?_
            refine RT.brT rfl ?_
            exact RT.done rfl rfl (Le.tup (LeL.cons (Le.refl _) (LeL.cons (Le.refl _) (LeL.nil)))) trivial rfl (dom0 rfl)
          · refine RT.brF rfl ?_
            refine RT.brF rfl ?_
            refine RT.brF rfl ?_
            refine RT.brF rfl ?_
            refine RT.brF rfl ?_
            refine RT.brF rfl ?_
            refine RT.br rfl (fun c6 => ?_) (fun c6 => ?_)
            · exact RT.done rfl rfl (Le.tup (LeL.cons (Le.refl _) (LeL.cons (Le.refl _) (LeL.nil)))) trivial rfl (dom0 rfl)
            · refine RT.br rfl (fun c3 => ?_) (fun c3 => RT.none)
              refine RT.br rfl (fun c4 => ?_) (fun c4 => RT.none)
              refine RT.call0 rfl (fun _ h => call_isPlain.ok k (a0.extract 0 (r2).toNat) _ h) (LeL.eq rfl) (fun _ => rfl) (fun r5 => ?_)
              refine RS.go ?_
              exact RT.done rfl rfl (Le.tup (LeL.cons (Le.refl _) (LeL.cons (Le.refl _) (LeL.nil)))) trivial rfl (dom0 rfl)
  · refine RT.brT rfl ?_
    refine RT.brT rfl ?_
    refine RT.brT rfl ?_
    refine RT.brT rfl ?_
    exact RT.done rfl rfl (Le.tup (LeL.cons (Le.refl _) (LeL.cons (Le.refl _) (LeL.nil)))) trivial rfl (dom0 rfl)
/-! ### call_based: function 123 -/
def call_based.k0 : List DK := [⟨[], [], [3], []⟩, ⟨[2, 23], [2], [], [2]⟩, ⟨[14, 18, 22], [], [23], []⟩, ⟨[19, 21], [], [22], []⟩, ⟨[20], [], [21], []⟩, ⟨[4], [], [20], []⟩, ⟨[0], [], [19], []⟩, ⟨[15, 17], [], [18], []⟩, ⟨[16], [], [17], []⟩, ⟨[4], [], [16], []⟩, ⟨[0], [], [15], []⟩, ⟨[0], [], [14], []⟩]
def call_based.k1 : List Nat := [0, 0, 0, 4, 14, 0, 0, 64, 224, 511, 1023, 2047]
def call_based.f (k : Nat) (a0 : ByteArray) : Option (ByteArray × ByteArray × ByteArray × Int × ByteArray × Bool) := ((call_split.f k a0).bind fun r1 => (if r1.2 = true then (if 0 ≤ wrap64 (r1.1 + 1) then (if wrap64 (r1.1 + 1) ≤ (a0.size : Int) then (if 0 ≤ wrap64 (r1.1 + 1) then (if wrap64 (r1.1 + 1) ≤ (a0.size : Int) then Option.some (a0, a0.extract 0 (wrap64 (r1.1 + 1)).toNat, a0.extract (wrap64 (r1.1 + 1)).toNat ((a0.size : Int)).toNat, 0, (⟨#[]⟩ : ByteArray), true) else Option.none) else Option.none) else Option.none) else Option.none) else Option.some ((⟨#[]⟩ : ByteArray), (⟨#[]⟩ : ByteArray), (⟨#[]⟩ : ByteArray), 0, (⟨#[]⟩ : ByteArray), false)))
theorem call_based.ok (k : Nat) (a0 : ByteArray) (r : ByteArray × ByteArray × ByteArray × Int × ByteArray × Bool) (h : call_based.f k a0 = some r) : Ct Tryz.prog B 123 [.str a0] (ofL []) (.tup [.agg [.str r.1, .str r.2.1, .str r.2.2.1, .int .i64 r.2.2.2.1, .str r.2.2.2.2.1], .bool r.2.2.2.2.2]) (ofL []) := by
  refine Ct.of (Y := (fam Tryz.f123 [] [] [] (fun r : ByteArray × ByteArray × ByteArray × Int × ByteArray × Bool => .tup [.agg [.str r.1, .str r.2.1, .str r.2.2.1, .int .i64 r.2.2.2.1, .str r.2.2.2.2.1], .bool r.2.2.2.2.2]) (fun r => []))) Tryz.func123 rfl Tryz.call123 rfl rfl ?_ r h
  unfold call_based.f
  refine RS.go ?_
  refine RT.call0 rfl (fun _ h => call_split.ok k a0 _ h) (LeL.eq rfl) (fun _ => rfl) (fun r1 => ?_)
  refine RS.go ?_
  refine RT.brBN rfl (fun c6 => ?_) (fun c6 => ?_)
  · refine RT.goto rfl ?_
    refine RS.draw rfl ?_
    refine RD.br rfl (fun c2 => ?_) (fun c2 => RD.none)
    refine RD.br rfl (fun c3 => ?_) (fun c3 => RD.none)
    refine RD.br rfl (fun c4 => ?_) (fun c4 => RD.none)
    refine RD.br rfl (fun c5 => ?_) (fun c5 => RD.none)
    refine RD.fin call_based.k0 call_based.k1 rfl rfl (by decide +kernel) ?_
    refine RS.go ?_
    exact RT.done rfl rfl (Le.tup (LeL.cons (Le.refl _) (LeL.cons (Le.refl _) (LeL.nil)))) trivial rfl (dom0 rfl)
  · exact RT.done rfl rfl (Le.tup (LeL.cons (Le.refl _) (LeL.cons (Le.refl _) (LeL.nil)))) trivial rfl (dom0 rfl)
/-! ### call_isBegin: function 125 -/
def call_isBegin.f (k : Nat) (a0 : ByteArray) : Option (Bool) := ((call_isPlain.f k a0).bind fun r1 => (if r1.2 = true then (if r1.1 > 0 then Option.some (decide ((a0.size : Int) ≤ 4)) else Option.some false) else Option.some false))
theorem call_isBegin.ok (k : Nat) (a0 : ByteArray) (r : Bool) (h : call_isBegin.f k a0 = some r) : Ct Tryz.prog B 125 [.str a0] (ofL []) (.bool r) (ofL []) := by
  refine Ct.of (Y := (fam Tryz.f125 [] [] [] (fun r : Bool => .bool r) (fun r => []))) Tryz.func125 rfl Tryz.call125 rfl rfl ?_ r h
  unfold call_isBegin.f
  refine RS.go ?_
  refine RT.call0 rfl (fun _ h => call_isPlain.ok k a0 _ h) (LeL.eq rfl) (fun _ => rfl) (fun r1 => ?_)
  refine RS.go ?_
  refine RT.brB rfl (fun c3 => ?_) (fun c3 => ?_)
  · refine RT.brT rfl ?_
    refine RT.brT rfl ?_
    refine RT.br rfl (fun c2 => ?_) (fun c2 => ?_)
    · refine RT.brT rfl ?_
      refine RT.brT rfl ?_
      refine RT.brT rfl ?_
      exact RT.done rfl rfl (Le.refl _) trivial rfl (dom0 rfl)
    · refine RT.brF rfl ?_
      refine RT.brF rfl ?_
      refine RT.brF rfl ?_
      exact RT.done rfl rfl (Le.refl _) trivial rfl (dom0 rfl)
  · refine RT.brF rfl ?_
    refine RT.brF rfl ?_
    refine RT.brF rfl ?_
    refine RT.brF rfl ?_
    refine RT.brF rfl ?_
    refine RT.brF rfl ?_
    exact RT.done rfl rfl (Le.refl _) trivial rfl (dom0 rfl)
/-! ### call_tail: function 126 -/
def call_tail.f (k : Nat) (a0 : ByteArray) : Option (Int × ByteArray × Bool) := (if a0 = (⟨#[112]⟩ : ByteArray) then Option.some (3, (⟨#[]⟩ : ByteArray), true) else (if a0 = (⟨#[109]⟩ : ByteArray) then Option.some (4, (⟨#[]⟩ : ByteArray), true) else (if a0 = (⟨#[109, 109]⟩ : ByteArray) then Option.some (5, (⟨#[]⟩ : ByteArray), true) else (if a0 = (⟨#[97, 109]⟩ : ByteArray) then Option.some (6, (⟨#[]⟩ : ByteArray), true) else (if (a0.size : Int) = 1 then (if 0 < (a0.size : Int) then ((call_isDigit.f (bt a0 0)).bind fun r2 => (if r2 = true then Option.some (2, a0, true) else ((call_isBegin.f k a0).bind fun r3 => Option.some (1, a0, r3)))) else Option.none) else ((call_isBegin.f k a0).bind fun r5 => Option.some (1, a0, r5)))))))
theorem call_tail.ok (k : Nat) (a0 : ByteArray) (r : Int × ByteArray × Bool) (h : call_tail.f k a0 = some r) : Ct Tryz.prog B 126 [.str a0] (ofL []) (.tup [.int .i64 r.1, .str r.2.1, .bool r.2.2]) (ofL []) := by
  refine Ct.of (Y := (fam Tryz.f126 [] [] [] (fun r : Int × ByteArray × Bool => .tup [.int .i64 r.1, .str r.2.1, .bool r.2.2]) (fun r => []))) Tryz.func126 rfl Tryz.call126 rfl rfl ?_ r h
  unfold call_tail.f
  refine RS.go ?_
  refine RT.br rfl (fun c10 => ?_) (fun c10 => ?_)
  · exact RT.done rfl rfl (Le.tup (LeL.cons (Le.refl _) (LeL.cons (Le.refl _) (LeL.cons (Le.refl _) (LeL.nil))))) trivial rfl (dom0 rfl)
  · refine RT.br rfl (fun c9 => ?_) (fun c9 => ?_)
    · exact RT.done rfl rfl (Le.tup (LeL.cons (Le.refl _) (LeL.cons (Le.refl _) (LeL.cons (Le.refl _) (LeL.nil))))) trivial rfl (dom0 rfl)
    · refine RT.br rfl (fun c8 => ?_) (fun c8 => ?_)
      · exact RT.done rfl rfl (Le.tup (LeL.cons (Le.refl _) (LeL.cons (Le.refl _) (LeL.cons (Le.refl _) (LeL.nil))))) trivial rfl (dom0 rfl)
      · refine RT.br rfl (fun c7 => ?_) (fun c7 => ?_)
        · exact RT.done rfl rfl (Le.tup (LeL.cons (Le.refl _) (LeL.cons (Le.refl _) (LeL.cons (Le.refl _) (LeL.nil))))) trivial rfl (dom0 rfl)
        · refine RT.br rfl (fun c6 => ?_) (fun c6 => ?_)
          · refine RT.brT rfl ?_
            refine RT.brT rfl ?_
            refine RT.br rfl (fun c1 => ?_) (fun c1 => RT.none)
            refine RT.brT rfl ?_
            refine RT.call0 rfl (fun _ h => call_isDigit.ok (bt a0 0) _ h) (LeL.eq rfl) (fun _ => rfl) (fun r2 => ?_)
            refine RS.go ?_
            refine RT.brT rfl ?_
            refine RT.brB rfl (fun c4 => ?_) (fun c4 => ?_)
            · exact RT.done rfl rfl (Le.tup (LeL.cons (Le.refl _) (LeL.cons (Le.refl _) (LeL.cons (Le.refl _) (LeL.nil))))) trivial rfl (dom0 rfl)
            · refine RT.call0 rfl (fun _ h => call_isBegin.ok k a0 _ h) (LeL.eq rfl) (fun _ => rfl) (fun r3 => ?_)
              refine RS.go ?_
              exact RT.done rfl rfl (Le.tup (LeL.cons (Le.refl _) (LeL.cons (Le.refl _) (LeL.cons (Le.refl _) (LeL.nil))))) trivial rfl (dom0 rfl)
          · refine RT.brF rfl ?_
            refine RT.brF rfl ?_
            refine RT.brF rfl ?_
            refine RT.brF rfl ?_
            refine RT.call0 rfl (fun _ h => call_isBegin.ok k a0 _ h) (LeL.eq rfl) (fun _ => rfl) (fun r5 => ?_)
            refine RS.go ?_
            exact RT.done rfl rfl (Le.tup (LeL.cons (Le.refl _) (LeL.cons (Le.refl _) (LeL.cons (Le.refl _) (LeL.nil))))) trivial rfl (dom0 rfl)
/-! ### call_Parts: function 66 -/
def call_Parts.f (k : Nat) (a0 : ByteArray) : Option (ByteArray × ByteArray × ByteArray × Int × ByteArray × Bool) := (if (a0.size : Int) > 14 then Option.some ((⟨#[]⟩ : ByteArray), (⟨#[]⟩ : ByteArray), (⟨#[]⟩ : ByteArray), 0, (⟨#[]⟩ : ByteArray), false) else ((call_based.f k a0).bind fun r1 => (if r1.2.2.2.2.2 = true then Option.some (r1.1, r1.2.1, r1.2.2.1, r1.2.2.2.1, r1.2.2.2.2.1, true) else ((strings_Cut.f a0 (⟨#[47]⟩ : ByteArray)).bind fun r2 => (if r2.2.2 = true then ((call_based.f k r2.2.1).bind fun r3 => (if r3.2.2.2.2.2 = true then ((call_isBegin.f k r2.1).bind fun r4 => (if r4 = true then Option.some (r3.1, r3.2.1, r3.2.2.1, 1, r2.1, true) else ((call_based.f k r2.1).bind fun r5 => ((call_tail.f k r2.2.1).bind fun r6 => (if r5.2.2.2.2.2 = true then (if r6.2.2 = true then Option.some (r5.1, r5.2.1, r5.2.2.1, r6.1, r6.2.1, true) else Option.some ((⟨#[]⟩ : ByteArray), (⟨#[]⟩ : ByteArray), (⟨#[]⟩ : ByteArray), 0, (⟨#[]⟩ : ByteArray), false)) else Option.some ((⟨#[]⟩ : ByteArray), (⟨#[]⟩ : ByteArray), (⟨#[]⟩ : ByteArray), 0, (⟨#[]⟩ : ByteArray), false)))))) else ((call_based.f k r2.1).bind fun r10 => ((call_tail.f k r2.2.1).bind fun r11 => (if r10.2.2.2.2.2 = true then (if r11.2.2 = true then Option.some (r10.1, r10.2.1, r10.2.2.1, r11.1, r11.2.1, true) else Option.some ((⟨#[]⟩ : ByteArray), (⟨#[]⟩ : ByteArray), (⟨#[]⟩ : ByteArray), 0, (⟨#[]⟩ : ByteArray), false)) else Option.some ((⟨#[]⟩ : ByteArray), (⟨#[]⟩ : ByteArray), (⟨#[]⟩ : ByteArray), 0, (⟨#[]⟩ : ByteArray), false)))))) else Option.some ((⟨#[]⟩ : ByteArray), (⟨#[]⟩ : ByteArray), (⟨#[]⟩ : ByteArray), 0, (⟨#[]⟩ : ByteArray), false))))))
theorem call_Parts.ok (k : Nat) (a0 : ByteArray) (r : ByteArray × ByteArray × ByteArray × Int × ByteArray × Bool) (h : call_Parts.f k a0 = some r) : Ct Tryz.prog B 66 [.str a0] (ofL []) (.tup [.agg [.str r.1, .str r.2.1, .str r.2.2.1, .int .i64 r.2.2.2.1, .str r.2.2.2.2.1], .bool r.2.2.2.2.2]) (ofL []) := by
  refine Ct.of (Y := (fam Tryz.f66 [] [] [] (fun r : ByteArray × ByteArray × ByteArray × Int × ByteArray × Bool => .tup [.agg [.str r.1, .str r.2.1, .str r.2.2.1, .int .i64 r.2.2.2.1, .str r.2.2.2.2.1], .bool r.2.2.2.2.2]) (fun r => []))) Tryz.func66 rfl Tryz.call66 rfl rfl ?_ r h
  unfold call_Parts.f
  refine RS.go ?_
  refine RT.br rfl (fun c17 => ?_) (fun c17 => ?_)
  · exact RT.done rfl rfl (Le.tup (LeL.cons (Le.refl _) (LeL.cons (Le.refl _) (LeL.nil)))) trivial rfl (dom0 rfl)
  · refine RT.call0 rfl (fun _ h => call_based.ok k a0 _ h) (LeL.eq rfl) (fun _ => rfl) (fun r1 => ?_)
    refine RS.go ?_
    refine RT.brB rfl (fun c16 => ?_) (fun c16 => ?_)
    · exact RT.done rfl rfl (Le.tup (LeL.cons (Le.refl _) (LeL.cons (Le.refl _) (LeL.nil)))) trivial rfl (dom0 rfl)
    · refine RT.call0 rfl (fun _ h => strings_Cut.ok a0 (⟨#[47]⟩ : ByteArray) _ h) (LeL.eq rfl) (fun _ => rfl) (fun r2 => ?_)
      refine RS.go ?_
      refine RT.brBN rfl (fun c15 => ?_) (fun c15 => ?_)
      · refine RT.call0 rfl (fun _ h => call_based.ok k r2.2.1 _ h) (LeL.eq rfl) (fun _ => rfl) (fun r3 => ?_)
        refine RS.go ?_
        refine RT.brB rfl (fun c14 => ?_) (fun c14 => ?_)
        · refine RT.brT rfl ?_
          refine RT.call0 rfl (fun _ h => call_isBegin.ok k r2.1 _ h) (LeL.eq rfl) (fun _ => rfl) (fun r4 => ?_)
          refine RS.go ?_
          refine RT.brT rfl ?_
          refine RT.brB rfl (fun c9 => ?_) (fun c9 => ?_)
          · exact RT.done rfl rfl (Le.tup (LeL.cons (Le.refl _) (LeL.cons (Le.refl _) (LeL.nil)))) trivial rfl (dom0 rfl)
          · refine RT.call0 rfl (fun _ h => call_based.ok k r2.1 _ h) (LeL.eq rfl) (fun _ => rfl) (fun r5 => ?_)
            refine RS.go ?_
            refine RT.call0 rfl (fun _ h => call_tail.ok k r2.2.1 _ h) (LeL.eq rfl) (fun _ => rfl) (fun r6 => ?_)
            refine RS.go ?_
            refine RT.brBN rfl (fun c8 => ?_) (fun c8 => ?_)
            · refine RT.brF rfl ?_
              refine RT.brF rfl ?_
              refine RT.brBN rfl (fun c7 => ?_) (fun c7 => ?_)
              · exact RT.done rfl rfl (Le.tup (LeL.cons (Le.refl _) (LeL.cons (Le.refl _) (LeL.nil)))) trivial rfl (dom0 rfl)
              · exact RT.done rfl rfl (Le.tup (LeL.cons (Le.refl _) (LeL.cons (Le.refl _) (LeL.nil)))) trivial rfl (dom0 rfl)
            · refine RT.brT rfl ?_
              refine RT.brT rfl ?_
              refine RT.brT rfl ?_
              exact RT.done rfl rfl (Le.tup (LeL.cons (Le.refl _) (LeL.cons (Le.refl _) (LeL.nil)))) trivial rfl (dom0 rfl)
        · refine RT.brF rfl ?_
          refine RT.brF rfl ?_
          refine RT.brF rfl ?_
          refine RT.call0 rfl (fun _ h => call_based.ok k r2.1 _ h) (LeL.eq rfl) (fun _ => rfl) (fun r10 => ?_)
          refine RS.go ?_
          refine RT.call0 rfl (fun _ h => call_tail.ok k r2.2.1 _ h) (LeL.eq rfl) (fun _ => rfl) (fun r11 => ?_)
          refine RS.go ?_
          refine RT.brBN rfl (fun c13 => ?_) (fun c13 => ?_)
          · refine RT.brF rfl ?_
            refine RT.brF rfl ?_
            refine RT.brBN rfl (fun c12 => ?_) (fun c12 => ?_)
            · exact RT.done rfl rfl (Le.tup (LeL.cons (Le.refl _) (LeL.cons (Le.refl _) (LeL.nil)))) trivial rfl (dom0 rfl)
            · exact RT.done rfl rfl (Le.tup (LeL.cons (Le.refl _) (LeL.cons (Le.refl _) (LeL.nil)))) trivial rfl (dom0 rfl)
          · refine RT.brT rfl ?_
            refine RT.brT rfl ?_
            refine RT.brT rfl ?_
            exact RT.done rfl rfl (Le.tup (LeL.cons (Le.refl _) (LeL.cons (Le.refl _) (LeL.nil)))) trivial rfl (dom0 rfl)
      · exact RT.done rfl rfl (Le.tup (LeL.cons (Le.refl _) (LeL.cons (Le.refl _) (LeL.nil)))) trivial rfl (dom0 rfl)
/-! ### call_Apart: function 60 -/
def call_Apart.f (k : Nat) (a0 : ByteArray) : Option (ByteArray × ByteArray × ByteArray × Int × ByteArray × Int) := ((call_Parts.f k a0).bind fun r1 => (if r1.2.2.2.2.2 = true then Option.some (r1.1, r1.2.1, r1.2.2.1, r1.2.2.2.1, r1.2.2.2.2.1, 0) else Option.some ((⟨#[]⟩ : ByteArray), (⟨#[]⟩ : ByteArray), (⟨#[]⟩ : ByteArray), 0, (⟨#[]⟩ : ByteArray), 3)))
theorem call_Apart.ok (k : Nat) (a0 : ByteArray) (r : ByteArray × ByteArray × ByteArray × Int × ByteArray × Int) (h : call_Apart.f k a0 = some r) : Ct Tryz.prog B 60 [.str a0] (ofL []) (.tup [.agg [.str r.1, .str r.2.1, .str r.2.2.1, .int .i64 r.2.2.2.1, .str r.2.2.2.2.1], .int .i64 r.2.2.2.2.2]) (ofL []) := by
  refine Ct.of (Y := (fam Tryz.f60 [] [] [] (fun r : ByteArray × ByteArray × ByteArray × Int × ByteArray × Int => .tup [.agg [.str r.1, .str r.2.1, .str r.2.2.1, .int .i64 r.2.2.2.1, .str r.2.2.2.2.1], .int .i64 r.2.2.2.2.2]) (fun r => []))) Tryz.func60 rfl Tryz.call60 rfl rfl ?_ r h
  unfold call_Apart.f
  refine RS.go ?_
  refine RT.call0 rfl (fun _ h => call_Parts.ok k a0 _ h) (LeL.eq rfl) (fun _ => rfl) (fun r1 => ?_)
  refine RS.go ?_
  refine RT.brBN rfl (fun c2 => ?_) (fun c2 => ?_)
  · exact RT.done rfl rfl (Le.tup (LeL.cons (Le.refl _) (LeL.cons (Le.refl _) (LeL.nil)))) trivial rfl (dom0 rfl)
  · exact RT.done rfl rfl (Le.tup (LeL.cons (Le.refl _) (LeL.cons (Le.refl _) (LeL.nil)))) trivial rfl (dom0 rfl)
/-! ### place_cosine: function 118 -/
mutual
def place_cosine.j4 : Nat → Int → Option (Int)
  | 0, _ => Option.none
  | k + 1, x3j4 => (if x3j4 > 324000 then ((place_cosine.f k (wrap64 (648000 - x3j4))).bind fun r1 => Option.some (wrap64 (0 - r1))) else (if wrap64 (419904000000 + (wrap64 (x3j4 * x3j4))) = 0 then Option.none else Option.some (wrap64 (Int.tdiv (wrap64 ((wrap64 (419904000000 - (wrap64 ((wrap64 (4 * x3j4)) * x3j4)))) * 1000000)) (wrap64 (419904000000 + (wrap64 (x3j4 * x3j4))))))))
def place_cosine.f : Nat → Int → Option (Int)
  | 0, _ => Option.none
  | k + 1, a0 => (if Int.tmod (wrap64 ((Int.tmod a0 1296000) + 1296000)) 1296000 > 648000 then place_cosine.j4 k (wrap64 (1296000 - (Int.tmod (wrap64 ((Int.tmod a0 1296000) + 1296000)) 1296000))) else place_cosine.j4 k (Int.tmod (wrap64 ((Int.tmod a0 1296000) + 1296000)) 1296000))
end
theorem place_cosine.loops : ∀ k, (∀ (x3j4 : Int), RS (fam Tryz.f118 [4] [] [] (fun r : Int => .int .i64 r) (fun r => [])) (Func.reg Tryz.f118 4) ⟨ofT [(3, .int .i64 x3j4)], ofL []⟩ (place_cosine.j4 k x3j4)) ∧ ∀ (a0 : Int) (r : Int) (h : place_cosine.f k a0 = some r), Ct Tryz.prog B 118 [.int .i64 a0] (ofL []) (.int .i64 r) (ofL [])
  | 0 => ⟨by intro _; simp only [place_cosine.j4]; exact RS.none, by intro _ r h; simp only [place_cosine.f] at h; cases h⟩
  | k + 1 => by
    have ih := place_cosine.loops k
    refine ⟨?_, ?_⟩
    · intro x3j4
      simp only [place_cosine.j4]
      refine RS.region ?_
      refine RS.go ?_
      refine RT.br rfl (fun c3 => ?_) (fun c3 => ?_)
      · refine RT.call0 rfl (fun _ h => ih.2 (wrap64 (648000 - x3j4)) _ h) (LeL.eq rfl) (fun _ => rfl) (fun r1 => ?_)
        refine RS.go ?_
        exact RT.done rfl rfl (Le.refl _) trivial rfl (dom0 rfl)
      · refine RT.br rfl (fun _ => RT.none) (fun c2 => ?_)
        exact RT.done rfl rfl (Le.refl _) trivial rfl (dom0 rfl)
    · intro a0 r h
      refine Ct.of (Y := (fam Tryz.f118 [4] [] [] (fun r : Int => .int .i64 r) (fun r => []))) Tryz.func118 rfl Tryz.call118 rfl rfl ?_ r h
      simp only [place_cosine.f]
      refine RS.go ?_
      refine RT.brF rfl ?_
      refine RT.brF rfl ?_
      refine RT.br rfl (fun c4 => ?_) (fun c4 => ?_)
      · refine RT.goto rfl ?_
        refine RS.weak [(3, .int .i64 (wrap64 (1296000 - (Int.tmod (wrap64 ((Int.tmod a0 1296000) + 1296000)) 1296000))))] [] ⟨Le.eq (by first | rfl | simp), trivial⟩ trivial rfl (dom0 rfl) ?_
        exact ih.1 (wrap64 (1296000 - (Int.tmod (wrap64 ((Int.tmod a0 1296000) + 1296000)) 1296000))) 
      · refine RT.goto rfl ?_
        refine RS.weak [(3, .int .i64 (Int.tmod (wrap64 ((Int.tmod a0 1296000) + 1296000)) 1296000))] [] ⟨Le.eq (by first | rfl | simp), trivial⟩ trivial rfl (dom0 rfl) ?_
        exact ih.1 (Int.tmod (wrap64 ((Int.tmod a0 1296000) + 1296000)) 1296000) 
theorem place_cosine.ok (k : Nat) (a0 : Int) (r : Int) (h : place_cosine.f k a0 = some r) : Ct Tryz.prog B 118 [.int .i64 a0] (ofL []) (.int .i64 r) (ofL []) := by
  exact (place_cosine.loops k).2 a0 r h
/-! ### place_Cosine: function 61 -/
def place_Cosine.f (k : Nat) (a0 : Int) : Option (Int × Int) := ((kit_Outside.f a0 (-1296000000) 1296000000).bind fun r1 => (if r1 = true then Option.some (0, 1) else ((place_cosine.f k a0).bind fun r2 => Option.some (r2, 0))))
theorem place_Cosine.ok (k : Nat) (a0 : Int) (r : Int × Int) (h : place_Cosine.f k a0 = some r) : Ct Tryz.prog B 61 [.int .i64 a0] (ofL []) (.tup [.int .i64 r.1, .int .i64 r.2]) (ofL []) := by
  refine Ct.of (Y := (fam Tryz.f61 [] [] [] (fun r : Int × Int => .tup [.int .i64 r.1, .int .i64 r.2]) (fun r => []))) Tryz.func61 rfl Tryz.call61 rfl rfl ?_ r h
  unfold place_Cosine.f
  refine RS.go ?_
  refine RT.call0 rfl (fun _ h => kit_Outside.ok a0 (-1296000000) 1296000000 _ h) (LeL.eq rfl) (fun _ => rfl) (fun r1 => ?_)
  refine RS.go ?_
  refine RT.brB rfl (fun c3 => ?_) (fun c3 => ?_)
  · exact RT.done rfl rfl (Le.tup (LeL.cons (Le.refl _) (LeL.cons (Le.refl _) (LeL.nil)))) trivial rfl (dom0 rfl)
  · refine RT.call0 rfl (fun _ h => place_cosine.ok k a0 _ h) (LeL.eq rfl) (fun _ => rfl) (fun r2 => ?_)
    refine RS.go ?_
    exact RT.done rfl rfl (Le.tup (LeL.cons (Le.refl _) (LeL.cons (Le.refl _) (LeL.nil)))) trivial rfl (dom0 rfl)
/-! ### key_Units: function 29 -/
def key_Units.l0 : Nat → Int → List Int → Int → Int → Option (Int × Int)
  | 0, _, _, _, _ => Option.none
  | k + 1, x5, x14, x15, x16 => (if x16 < x15 then (if 0 ≤ x16 then (if x16 < (x14.length : Int) then key_Units.l0 k (wrap64 (x5 + (rd x14 x16))) x14 x15 (wrap64 (x16 + 1)) else Option.none) else Option.none) else Option.some (x5, 0))
def key_Units.f (k : Nat) (a0 : ByteArray) : Option (Int × Int) := ((key_CheckSaid.f k a0).bind fun r1 => (if r1 = 0 then ((key_lengths.f k a0 1 1).bind fun r2 => key_Units.l0 k 0 r2 (r2.length : Int) 0) else Option.some (0, r1)))
theorem key_Units.loops : ∀ k, (∀ (x5 : Int) (x14 : List Int) (x15 : Int) (x16 : Int), RS (fam Tryz.f29 [] [] [] (fun r : Int × Int => .tup [.int .i64 r.1, .int .i64 r.2]) (fun r => [])) (Func.head Tryz.f29 0) ⟨ofT [(5, .int .i64 x5), (14, sq eI x14), (15, .int .i64 x15), (16, .int .i64 x16)], ofL []⟩ (key_Units.l0 k x5 x14 x15 x16))
  | 0 => by intro _ _ _ _; simp only [key_Units.l0]; exact RS.none
  | k + 1 => by
    have ih := key_Units.loops k
    · intro x5 x14 x15 x16
      simp only [key_Units.l0]
      refine RS.go ?_
      refine RT.br rfl (fun c5 => ?_) (fun c5 => ?_)
      · refine RT.br rfl (fun c3 => ?_) (fun c3 => RT.none)
        refine RT.br rfl (fun c4 => ?_) (fun c4 => RT.none)
        refine RT.goto rfl ?_
        refine RS.weak [(5, .int .i64 (wrap64 (x5 + (rd x14 x16)))), (14, sq eI x14), (15, .int .i64 x15), (16, .int .i64 (wrap64 (x16 + 1)))] [] ⟨Le.eq (by first | rfl | simp), Le.eq (by first | rfl | simp), Le.eq (by first | rfl | simp), Le.eq (by first | rfl | simp), trivial⟩ trivial rfl (dom0 rfl) ?_
        exact ih (wrap64 (x5 + (rd x14 x16))) x14 x15 (wrap64 (x16 + 1)) 
      · exact RT.done rfl rfl (Le.tup (LeL.cons (Le.refl _) (LeL.cons (Le.refl _) (LeL.nil)))) trivial rfl (dom0 rfl)
theorem key_Units.ok (k : Nat) (a0 : ByteArray) (r : Int × Int) (h : key_Units.f k a0 = some r) : Ct Tryz.prog B 29 [.str a0] (ofL []) (.tup [.int .i64 r.1, .int .i64 r.2]) (ofL []) := by
  refine Ct.of (Y := (fam Tryz.f29 [] [] [] (fun r : Int × Int => .tup [.int .i64 r.1, .int .i64 r.2]) (fun r => []))) Tryz.func29 rfl Tryz.call29 rfl rfl ?_ r h
  unfold key_Units.f
  refine RS.go ?_
  refine RT.call0 rfl (fun _ h => key_CheckSaid.ok k a0 _ h) (LeL.eq rfl) (fun _ => rfl) (fun r1 => ?_)
  refine RS.go ?_
  refine RT.brN rfl (fun c6 => ?_) (fun c6 => ?_)
  · refine RT.call0 rfl (fun _ h => key_lengths.ok k a0 1 1 _ h) (LeL.eq rfl) (fun _ => rfl) (fun r2 => ?_)
    refine RS.go ?_
    refine RT.goto rfl ?_
    refine RS.weak [(5, .int .i64 0), (14, sq eI r2), (15, .int .i64 (r2.length : Int)), (16, .int .i64 0)] [] ⟨Le.eq (by first | rfl | simp), Le.eq (by first | rfl | simp), Le.eq (by first | rfl | simp), Le.eq (by first | rfl | simp), trivial⟩ trivial rfl (dom0 rfl) ?_
    exact key_Units.loops k 0 r2 (r2.length : Int) 0 
  · exact RT.done rfl rfl (Le.tup (LeL.cons (Le.refl _) (LeL.cons (Le.refl _) (LeL.nil)))) trivial rfl (dom0 rfl)
/-! ### kit_IsTime: function 161 -/
def kit_IsTime.f (a0_0 : Int) (a0_1 : Int) : Option (Bool) := (if a0_0 ≥ 0 then (if a0_0 < a0_1 then Option.some (decide (a0_1 ≤ 345686400000)) else Option.some false) else Option.some false)
theorem kit_IsTime.ok (a0_0 : Int) (a0_1 : Int) (r : Bool) (h : kit_IsTime.f a0_0 a0_1 = some r) : Ct Tryz.prog B 161 [.agg [.int .i64 a0_0, .int .i64 a0_1]] (ofL []) (.bool r) (ofL []) := by
  refine Ct.of (Y := (fam Tryz.f161 [] [] [] (fun r : Bool => .bool r) (fun r => []))) Tryz.func161 rfl Tryz.call161 rfl rfl ?_ r h
  unfold kit_IsTime.f
  refine RS.go ?_
  refine RT.br rfl (fun c2 => ?_) (fun c2 => ?_)
  · refine RT.brT rfl ?_
    refine RT.brT rfl ?_
    refine RT.brT rfl ?_
    refine RT.brT rfl ?_
    refine RT.brT rfl ?_
    refine RT.br rfl (fun c1 => ?_) (fun c1 => ?_)
    · refine RT.brT rfl ?_
      refine RT.brT rfl ?_
      refine RT.brT rfl ?_
      exact RT.done rfl rfl (Le.refl _) trivial rfl (dom0 rfl)
    · refine RT.brF rfl ?_
      refine RT.brF rfl ?_
      refine RT.brF rfl ?_
      exact RT.done rfl rfl (Le.refl _) trivial rfl (dom0 rfl)
  · refine RT.brF rfl ?_
    refine RT.brF rfl ?_
    refine RT.brF rfl ?_
    refine RT.brF rfl ?_
    refine RT.brF rfl ?_
    refine RT.brF rfl ?_
    refine RT.brF rfl ?_
    refine RT.brF rfl ?_
    refine RT.brF rfl ?_
    exact RT.done rfl rfl (Le.refl _) trivial rfl (dom0 rfl)
/-! ### kit_Has: function 162 -/
def kit_Has.f (a0_0 : Int) (a0_1 : Int) (a1 : Int) : Option (Bool) := (if a0_0 ≤ a1 then Option.some (decide (a1 < a0_1)) else Option.some false)
theorem kit_Has.ok (a0_0 : Int) (a0_1 : Int) (a1 : Int) (r : Bool) (h : kit_Has.f a0_0 a0_1 a1 = some r) : Ct Tryz.prog B 162 [.agg [.int .i64 a0_0, .int .i64 a0_1], .int .i64 a1] (ofL []) (.bool r) (ofL []) := by
  refine Ct.of (Y := (fam Tryz.f162 [] [] [] (fun r : Bool => .bool r) (fun r => []))) Tryz.func162 rfl Tryz.call162 rfl rfl ?_ r h
  unfold kit_Has.f
  refine RS.go ?_
  refine RT.br rfl (fun c1 => ?_) (fun c1 => ?_)
  · refine RT.brT rfl ?_
    refine RT.brT rfl ?_
    refine RT.brT rfl ?_
    refine RT.brT rfl ?_
    exact RT.done rfl rfl (Le.refl _) trivial rfl (dom0 rfl)
  · refine RT.brF rfl ?_
    refine RT.brF rfl ?_
    refine RT.brF rfl ?_
    refine RT.brF rfl ?_
    exact RT.done rfl rfl (Le.refl _) trivial rfl (dom0 rfl)
/-! ### rate_CheckTimes: function 119 -/
def rate_CheckTimes.l0 : Nat → List Int → Int → Int → Int → Option (Int)
  | 0, _, _, _, _ => Option.none
  | k + 1, l0, a1_0, a1_1, x15 => (if x15 < (l0.length : Int) then (if 0 ≤ x15 then (if x15 < (l0.length : Int) then ((kit_Has.f a1_0 a1_1 (rd l0 x15)).bind fun r4 => (if r4 = true then (if x15 > 0 then (if 0 ≤ wrap64 (x15 - 1) then (if wrap64 (x15 - 1) < (l0.length : Int) then (if (rd l0 x15) < (rd l0 (wrap64 (x15 - 1))) then Option.some 7 else rate_CheckTimes.l0 k l0 a1_0 a1_1 (wrap64 (x15 + 1))) else Option.none) else Option.none) else rate_CheckTimes.l0 k l0 a1_0 a1_1 (wrap64 (x15 + 1))) else Option.some 1)) else Option.none) else Option.none) else Option.some 0)
def rate_CheckTimes.f (k : Nat) (l0 : List Int) (a1_0 : Int) (a1_1 : Int) : Option (Int) := ((kit_IsTime.f a1_0 a1_1).bind fun r1 => (if r1 = true then (if (l0.length : Int) > 2000 then Option.some 2 else rate_CheckTimes.l0 k l0 a1_0 a1_1 0) else Option.some 1))
theorem rate_CheckTimes.loops : ∀ k, (∀ (l0 : List Int) (a1_0 : Int) (a1_1 : Int) (x15 : Int), RS (fam Tryz.f119 [] [] [] (fun r : Int => .int .i64 r) (fun r => [])) (Func.head Tryz.f119 0) ⟨ofT [(0, sq eI l0), (3, .ref 3 0 0 0 2), (13, sq eI l0), (14, .int .i64 (l0.length : Int)), (15, .int .i64 x15)], ofL [(3, .box [.int .i64 a1_0, .int .i64 a1_1])]⟩ (rate_CheckTimes.l0 k l0 a1_0 a1_1 x15))
  | 0 => by intro _ _ _ _; simp only [rate_CheckTimes.l0]; exact RS.none
  | k + 1 => by
    have ih := rate_CheckTimes.loops k
    · intro l0 a1_0 a1_1 x15
      simp only [rate_CheckTimes.l0]
      refine RS.go ?_
      refine RT.br rfl (fun c10 => ?_) (fun c10 => ?_)
      · refine RT.br rfl (fun c2 => ?_) (fun c2 => RT.none)
        refine RT.br rfl (fun c3 => ?_) (fun c3 => RT.none)
        refine RT.call0 rfl (fun _ h => kit_Has.ok a1_0 a1_1 (rd l0 x15) _ h) (LeL.eq rfl) (fun _ => rfl) (fun r4 => ?_)
        refine RS.go ?_
        refine RT.brBN rfl (fun c9 => ?_) (fun c9 => ?_)
        · refine RT.br rfl (fun c8 => ?_) (fun c8 => ?_)
          · refine RT.brT rfl ?_
            refine RT.brT rfl ?_
            refine RT.brT rfl ?_
            refine RT.brT rfl ?_
            refine RT.br rfl (fun c5 => ?_) (fun c5 => RT.none)
            refine RT.br rfl (fun c6 => ?_) (fun c6 => RT.none)
            refine RT.brT rfl ?_
            refine RT.brT rfl ?_
            refine RT.brT rfl ?_
            refine RT.br rfl (fun c7 => ?_) (fun c7 => ?_)
            · exact RT.done rfl rfl (Le.refl _) trivial rfl (dom0 rfl)
            · refine RT.goto rfl ?_
              refine RS.weak [(0, sq eI l0), (3, .ref 3 0 0 0 2), (13, sq eI l0), (14, .int .i64 (l0.length : Int)), (15, .int .i64 (wrap64 (x15 + 1)))] [(3, .box [.int .i64 a1_0, .int .i64 a1_1])] ⟨Le.eq (by first | rfl | simp), Le.eq (by first | rfl | simp), Le.eq (by first | rfl | simp), Le.eq (by first | rfl | simp), Le.eq (by first | rfl | simp), trivial⟩ ⟨⟨_, rfl, LeO.refl _⟩, trivial⟩ rfl (dom0 rfl) ?_
              exact ih l0 a1_0 a1_1 (wrap64 (x15 + 1)) 
          · refine RT.brF rfl ?_
            refine RT.brF rfl ?_
            refine RT.brF rfl ?_
            refine RT.brF rfl ?_
            refine RT.brF rfl ?_
            refine RT.brF rfl ?_
            refine RT.brF rfl ?_
            refine RT.brF rfl ?_
            refine RT.goto rfl ?_
            refine RS.weak [(0, sq eI l0), (3, .ref 3 0 0 0 2), (13, sq eI l0), (14, .int .i64 (l0.length : Int)), (15, .int .i64 (wrap64 (x15 + 1)))] [(3, .box [.int .i64 a1_0, .int .i64 a1_1])] ⟨Le.eq (by first | rfl | simp), Le.eq (by first | rfl | simp), Le.eq (by first | rfl | simp), Le.eq (by first | rfl | simp), Le.eq (by first | rfl | simp), trivial⟩ ⟨⟨_, rfl, LeO.refl _⟩, trivial⟩ rfl (dom0 rfl) ?_
            exact ih l0 a1_0 a1_1 (wrap64 (x15 + 1)) 
        · exact RT.done rfl rfl (Le.refl _) trivial rfl (dom0 rfl)
      · exact RT.done rfl rfl (Le.refl _) trivial rfl (dom0 rfl)
theorem rate_CheckTimes.ok (k : Nat) (l0 : List Int) (a1_0 : Int) (a1_1 : Int) (r : Int) (h : rate_CheckTimes.f k l0 a1_0 a1_1 = some r) : Ct Tryz.prog B 119 [sq eI l0, .agg [.int .i64 a1_0, .int .i64 a1_1]] (ofL []) (.int .i64 r) (ofL []) := by
  refine Ct.of (Y := (fam Tryz.f119 [] [] [] (fun r : Int => .int .i64 r) (fun r => []))) Tryz.func119 rfl Tryz.call119 rfl rfl ?_ r h
  unfold rate_CheckTimes.f
  refine RS.go ?_
  refine RT.call0 rfl (fun _ h => kit_IsTime.ok a1_0 a1_1 _ h) (LeL.eq rfl) (fun _ => rfl) (fun r1 => ?_)
  refine RS.go ?_
  refine RT.brBN rfl (fun c12 => ?_) (fun c12 => ?_)
  · refine RT.br rfl (fun c11 => ?_) (fun c11 => ?_)
    · exact RT.done rfl rfl (Le.refl _) trivial rfl (dom0 rfl)
    · refine RT.goto rfl ?_
      refine RS.weak [(0, sq eI l0), (3, .ref 3 0 0 0 2), (13, sq eI l0), (14, .int .i64 (l0.length : Int)), (15, .int .i64 0)] [(3, .box [.int .i64 a1_0, .int .i64 a1_1])] ⟨Le.eq (by first | rfl | simp), Le.eq (by first | rfl | simp), Le.eq (by first | rfl | simp), Le.eq (by first | rfl | simp), Le.eq (by first | rfl | simp), trivial⟩ ⟨⟨_, rfl, LeO.refl _⟩, trivial⟩ rfl (dom0 rfl) ?_
      exact rate_CheckTimes.loops k l0 a1_0 a1_1 0 
  · exact RT.done rfl rfl (Le.refl _) trivial rfl (dom0 rfl)
/-! ### rate_isLong: function 120 -/
def rate_isLong.f (a0 : Int) : Option (Bool) := ((kit_Outside.f a0 60000 86400000).bind fun r1 => Option.some (!r1))
theorem rate_isLong.ok (a0 : Int) (r : Bool) (h : rate_isLong.f a0 = some r) : Ct Tryz.prog B 120 [.int .i64 a0] (ofL []) (.bool r) (ofL []) := by
  refine Ct.of (Y := (fam Tryz.f120 [] [] [] (fun r : Bool => .bool r) (fun r => []))) Tryz.func120 rfl Tryz.call120 rfl rfl ?_ r h
  unfold rate_isLong.f
  refine RS.go ?_
  refine RT.call0 rfl (fun _ h => kit_Outside.ok a0 60000 86400000 _ h) (LeL.eq rfl) (fun _ => rfl) (fun r1 => ?_)
  refine RS.go ?_
  exact RT.done rfl rfl (Le.refl _) trivial rfl (dom0 rfl)
/-! ### cmp_isNaN_int: function 256 -/
def cmp_isNaN_int.f (a0 : Int) : Option (Bool) := Option.some (!decide (a0 = a0))
theorem cmp_isNaN_int.ok (a0 : Int) (r : Bool) (h : cmp_isNaN_int.f a0 = some r) : Ct Tryz.prog B 256 [.int .i64 a0] (ofL []) (.bool r) (ofL []) := by
  refine Ct.of (Y := (fam Tryz.f256 [] [] [] (fun r : Bool => .bool r) (fun r => []))) Tryz.func256 rfl Tryz.call256 rfl rfl ?_ r h
  unfold cmp_isNaN_int.f
  refine RS.go ?_
  exact RT.done rfl rfl (Le.refl _) trivial rfl (dom0 rfl)
/-! ### cmp_Less_int: function 241 -/
def cmp_Less_int.f (a0 : Int) (a1 : Int) : Option (Bool) := ((cmp_isNaN_int.f a0).bind fun r1 => (if r1 = true then ((cmp_isNaN_int.f a1).bind fun r2 => (if r2 = true then Option.some (decide (a0 < a1)) else Option.some true)) else Option.some (decide (a0 < a1))))
theorem cmp_Less_int.ok (a0 : Int) (a1 : Int) (r : Bool) (h : cmp_Less_int.f a0 a1 = some r) : Ct Tryz.prog B 241 [.int .i64 a0, .int .i64 a1] (ofL []) (.bool r) (ofL []) := by
  refine Ct.of (Y := (fam Tryz.f241 [] [] [] (fun r : Bool => .bool r) (fun r => []))) Tryz.func241 rfl Tryz.call241 rfl rfl ?_ r h
  unfold cmp_Less_int.f
  refine RS.go ?_
  refine RT.call0 rfl (fun _ h => cmp_isNaN_int.ok a0 _ h) (LeL.eq rfl) (fun _ => rfl) (fun r1 => ?_)
  refine RS.go ?_
  refine RT.brB rfl (fun c4 => ?_) (fun c4 => ?_)
  · refine RT.brT rfl ?_
    refine RT.call0 rfl (fun _ h => cmp_isNaN_int.ok a1 _ h) (LeL.eq rfl) (fun _ => rfl) (fun r2 => ?_)
    refine RS.go ?_
    refine RT.brT rfl ?_
    refine RT.brT rfl ?_
    refine RT.brBN rfl (fun c3 => ?_) (fun c3 => ?_)
    · refine RT.brF rfl ?_
      refine RT.brF rfl ?_
      refine RT.brF rfl ?_
      exact RT.done rfl rfl (Le.refl _) trivial rfl (dom0 rfl)
    · refine RT.brT rfl ?_
      refine RT.brT rfl ?_
      refine RT.brT rfl ?_
      exact RT.done rfl rfl (Le.refl _) trivial rfl (dom0 rfl)
  · refine RT.brF rfl ?_
    refine RT.brF rfl ?_
    refine RT.brF rfl ?_
    refine RT.brF rfl ?_
    refine RT.brF rfl ?_
    refine RT.brF rfl ?_
    refine RT.brF rfl ?_
    exact RT.done rfl rfl (Le.refl _) trivial rfl (dom0 rfl)
/-! ### slices_isNaN_int: function 242 -/
def slices_isNaN_int.f (a0 : Int) : Option (Bool) := Option.some (!decide (a0 = a0))
theorem slices_isNaN_int.ok (a0 : Int) (r : Bool) (h : slices_isNaN_int.f a0 = some r) : Ct Tryz.prog B 242 [.int .i64 a0] (ofL []) (.bool r) (ofL []) := by
  refine Ct.of (Y := (fam Tryz.f242 [] [] [] (fun r : Bool => .bool r) (fun r => []))) Tryz.func242 rfl Tryz.call242 rfl rfl ?_ r h
  unfold slices_isNaN_int.f
  refine RS.go ?_
  exact RT.done rfl rfl (Le.refl _) trivial rfl (dom0 rfl)
/-! ### slices_BinarySearch_int_int: function 213 -/
def slices_BinarySearch_int_int.l0 : Nat → List Int → Int → Int → Int → Option (Int × Bool)
  | 0, _, _, _, _ => Option.none
  | k + 1, l0, a1, x7, x8 => (if x7 < x8 then (if 0 ≤ wrap64 (Int.fdiv (IntKind.u64.wrap (wrap64 (x7 + x8))) (2 ^ (min (Int.toNat 1) 64))) then (if wrap64 (Int.fdiv (IntKind.u64.wrap (wrap64 (x7 + x8))) (2 ^ (min (Int.toNat 1) 64))) < (l0.length : Int) then ((cmp_Less_int.f (rd l0 (wrap64 (Int.fdiv (IntKind.u64.wrap (wrap64 (x7 + x8))) (2 ^ (min (Int.toNat 1) 64))))) a1).bind fun r3 => (if r3 = true then slices_BinarySearch_int_int.l0 k l0 a1 (wrap64 ((wrap64 (Int.fdiv (IntKind.u64.wrap (wrap64 (x7 + x8))) (2 ^ (min (Int.toNat 1) 64)))) + 1)) x8 else slices_BinarySearch_int_int.l0 k l0 a1 x7 (wrap64 (Int.fdiv (IntKind.u64.wrap (wrap64 (x7 + x8))) (2 ^ (min (Int.toNat 1) 64)))))) else Option.none) else Option.none) else (if x7 < (l0.length : Int) then (if 0 ≤ x7 then (if x7 < (l0.length : Int) then (if (rd l0 x7) = a1 then Option.some (x7, true) else (if 0 ≤ x7 then (if x7 < (l0.length : Int) then ((slices_isNaN_int.f (rd l0 x7)).bind fun r9 => (if r9 = true then ((slices_isNaN_int.f a1).bind fun r10 => Option.some (x7, r10)) else Option.some (x7, false))) else Option.none) else Option.none)) else Option.none) else Option.none) else Option.some (x7, false)))
def slices_BinarySearch_int_int.f (k : Nat) (l0 : List Int) (a1 : Int) : Option (Int × Bool) := slices_BinarySearch_int_int.l0 k l0 a1 0 (l0.length : Int)
theorem slices_BinarySearch_int_int.loops : ∀ k, (∀ (l0 : List Int) (a1 : Int) (x7 : Int) (x8 : Int), RS (fam Tryz.f213 [] [] [] (fun r : Int × Bool => .tup [.int .i64 r.1, .bool r.2]) (fun r => [])) (Func.head Tryz.f213 0) ⟨ofT [(0, sq eI l0), (1, .int .i64 a1), (6, .int .i64 (l0.length : Int)), (7, .int .i64 x7), (8, .int .i64 x8)], ofL []⟩ (slices_BinarySearch_int_int.l0 k l0 a1 x7 x8))
  | 0 => by intro _ _ _ _; simp only [slices_BinarySearch_int_int.l0]; exact RS.none
  | k + 1 => by
    have ih := slices_BinarySearch_int_int.loops k
    · intro l0 a1 x7 x8
      simp only [slices_BinarySearch_int_int.l0]
      refine RS.go ?_
      refine RT.br rfl (fun c14 => ?_) (fun c14 => ?_)
      · refine RT.brF rfl ?_
        refine RT.br rfl (fun c1 => ?_) (fun c1 => RT.none)
        refine RT.br rfl (fun c2 => ?_) (fun c2 => RT.none)
        refine RT.call0 rfl (fun _ h => cmp_Less_int.ok (rd l0 (wrap64 (Int.fdiv (IntKind.u64.wrap (wrap64 (x7 + x8))) (2 ^ (min (Int.toNat 1) 64))))) a1 _ h) (LeL.eq rfl) (fun _ => rfl) (fun r3 => ?_)
        refine RS.go ?_
        refine RT.brB rfl (fun c4 => ?_) (fun c4 => ?_)
        · refine RT.goto rfl ?_
          refine RS.weak [(0, sq eI l0), (1, .int .i64 a1), (6, .int .i64 (l0.length : Int)), (7, .int .i64 (wrap64 ((wrap64 (Int.fdiv (IntKind.u64.wrap (wrap64 (x7 + x8))) (2 ^ (min (Int.toNat 1) 64)))) + 1))), (8, .int .i64 x8)] [] ⟨Le.eq (by first | rfl | simp), Le.eq (by first | rfl | simp), Le.eq (by first | rfl | simp), Le.eq (by first | rfl | simp), Le.eq (by first | rfl | simp), trivial⟩ trivial rfl (dom0 rfl) ?_
          exact ih l0 a1 (wrap64 ((wrap64 (Int.fdiv (IntKind.u64.wrap (wrap64 (x7 + x8))) (2 ^ (min (Int.toNat 1) 64)))) + 1)) x8 
        · refine RT.goto rfl ?_
          refine RS.weak [(0, sq eI l0), (1, .int .i64 a1), (6, .int .i64 (l0.length : Int)), (7, .int .i64 x7), (8, .int .i64 (wrap64 (Int.fdiv (IntKind.u64.wrap (wrap64 (x7 + x8))) (2 ^ (min (Int.toNat 1) 64)))))] [] ⟨Le.eq (by first | rfl | simp), Le.eq (by first | rfl | simp), Le.eq (by first | rfl | simp), Le.eq (by first | rfl | simp), Le.eq (by first | rfl | simp), trivial⟩ trivial rfl (dom0 rfl) ?_
          exact ih l0 a1 x7 (wrap64 (Int.fdiv (IntKind.u64.wrap (wrap64 (x7 + x8))) (2 ^ (min (Int.toNat 1) 64)))) 
      · refine RT.br rfl (fun c13 => ?_) (fun c13 => ?_)
        · refine RT.brT rfl ?_
          refine RT.brT rfl ?_
          refine RT.br rfl (fun c5 => ?_) (fun c5 => RT.none)
          refine RT.br rfl (fun c6 => ?_) (fun c6 => RT.none)
          refine RT.brT rfl ?_
          refine RT.brT rfl ?_
          refine RT.brT rfl ?_
          refine RT.brT rfl ?_
          refine RT.br rfl (fun c12 => ?_) (fun c12 => ?_)
          · refine RT.brT rfl ?_
            refine RT.brT rfl ?_
            refine RT.brT rfl ?_
            refine RT.brT rfl ?_
            refine RT.brT rfl ?_
            refine RT.brT rfl ?_
            refine RT.brT rfl ?_
            refine RT.brT rfl ?_
            refine RT.brT rfl ?_
            exact RT.done rfl rfl (Le.tup (LeL.cons (Le.refl _) (LeL.cons (Le.refl _) (LeL.nil)))) trivial rfl (dom0 rfl)
          · refine RT.brF rfl ?_
            refine RT.brF rfl ?_
            refine RT.br rfl (fun c7 => ?_) (fun c7 => RT.none)
            refine RT.br rfl (fun c8 => ?_) (fun c8 => RT.none)
            refine RT.brF rfl ?_
            refine RT.brF rfl ?_
            refine RT.call0 rfl (fun _ h => slices_isNaN_int.ok (rd l0 x7) _ h) (LeL.eq rfl) (fun _ => rfl) (fun r9 => ?_)
            refine RS.go ?_
            refine RT.brF rfl ?_
            refine RT.brB rfl (fun c11 => ?_) (fun c11 => ?_)
            · refine RT.brT rfl ?_
              refine RT.call0 rfl (fun _ h => slices_isNaN_int.ok a1 _ h) (LeL.eq rfl) (fun _ => rfl) (fun r10 => ?_)
              refine RS.go ?_
              refine RT.brF rfl ?_
              refine RT.brT rfl ?_
              refine RT.brT rfl ?_
              refine RT.brF rfl ?_
              refine RT.brT rfl ?_
              exact RT.done rfl rfl (Le.tup (LeL.cons (Le.refl _) (LeL.cons (Le.refl _) (LeL.nil)))) trivial rfl (dom0 rfl)
            · refine RT.brF rfl ?_
              refine RT.brF rfl ?_
              refine RT.brF rfl ?_
              refine RT.brT rfl ?_
              refine RT.brF rfl ?_
              refine RT.brT rfl ?_
              exact RT.done rfl rfl (Le.tup (LeL.cons (Le.refl _) (LeL.cons (Le.refl _) (LeL.nil)))) trivial rfl (dom0 rfl)
        · refine RT.brF rfl ?_
          refine RT.brF rfl ?_
          refine RT.brF rfl ?_
          refine RT.brF rfl ?_
          refine RT.brF rfl ?_
          refine RT.brF rfl ?_
          refine RT.brF rfl ?_
          refine RT.brF rfl ?_
          exact RT.done rfl rfl (Le.tup (LeL.cons (Le.refl _) (LeL.cons (Le.refl _) (LeL.nil)))) trivial rfl (dom0 rfl)
theorem slices_BinarySearch_int_int.ok (k : Nat) (l0 : List Int) (a1 : Int) (r : Int × Bool) (h : slices_BinarySearch_int_int.f k l0 a1 = some r) : Ct Tryz.prog B 213 [sq eI l0, .int .i64 a1] (ofL []) (.tup [.int .i64 r.1, .bool r.2]) (ofL []) := by
  refine Ct.of (Y := (fam Tryz.f213 [] [] [] (fun r : Int × Bool => .tup [.int .i64 r.1, .bool r.2]) (fun r => []))) Tryz.func213 rfl Tryz.call213 rfl rfl ?_ r h
  unfold slices_BinarySearch_int_int.f
  refine RS.go ?_
  refine RT.goto rfl ?_
  refine RS.weak [(0, sq eI l0), (1, .int .i64 a1), (6, .int .i64 (l0.length : Int)), (7, .int .i64 0), (8, .int .i64 (l0.length : Int))] [] ⟨Le.eq (by first | rfl | simp), Le.eq (by first | rfl | simp), Le.eq (by first | rfl | simp), Le.eq (by first | rfl | simp), Le.eq (by first | rfl | simp), trivial⟩ trivial rfl (dom0 rfl) ?_
  exact slices_BinarySearch_int_int.loops k l0 a1 0 (l0.length : Int) 
/-! ### rate_before: function 163 -/
def rate_before.f (k : Nat) (l0 : List Int) (a1 : Int) : Option (Int) := ((slices_BinarySearch_int_int.f k l0 a1).bind fun r1 => Option.some r1.1)
theorem rate_before.ok (k : Nat) (l0 : List Int) (a1 : Int) (r : Int) (h : rate_before.f k l0 a1 = some r) : Ct Tryz.prog B 163 [sq eI l0, .int .i64 a1] (ofL []) (.int .i64 r) (ofL []) := by
  refine Ct.of (Y := (fam Tryz.f163 [] [] [] (fun r : Int => .int .i64 r) (fun r => []))) Tryz.func163 rfl Tryz.call163 rfl rfl ?_ r h
  unfold rate_before.f
  refine RS.go ?_
  refine RT.call0 rfl (fun _ h => slices_BinarySearch_int_int.ok k l0 a1 _ h) (LeL.eq rfl) (fun _ => rfl) (fun r1 => ?_)
  refine RS.go ?_
  exact RT.done rfl rfl (Le.refl _) trivial rfl (dom0 rfl)
end Go.EV
