/- Printed by a program of this session: a Lean function for each function that the law reaches, and that the code comes to it. -/
import Derived.Test.YtonnpocamipbiaaGreatDoorEvS
set_option linter.unusedVariables false
set_option linter.unusedSimpArgs false
namespace Go.EV
open Go Go.Proofs Go.RowKit
set_option maxHeartbeats 4000000
set_option maxRecDepth 100000
set_option linter.unusedVariables false
def str_0 : ByteArray := ⟨#[0, 1, 2, 2, 3, 3, 3, 3, 4, 4, 4, 4, 4, 4, 4, 4, 5, 5, 5, 5, 5, 5, 5, 5, 5, 5, 5, 5, 5, 5, 5, 5, 6, 6, 6, 6, 6, 6, 6, 6, 6, 6, 6, 6, 6, 6, 6, 6, 6, 6, 6, 6, 6, 6, 6, 6, 6, 6, 6, 6, 6, 6, 6, 6, 7, 7, 7, 7, 7, 7, 7, 7, 7, 7, 7, 7, 7, 7, 7, 7, 7, 7, 7, 7, 7, 7, 7, 7, 7, 7, 7, 7, 7, 7, 7, 7, 7, 7, 7, 7, 7, 7, 7, 7, 7, 7, 7, 7, 7, 7, 7, 7, 7, 7, 7, 7, 7, 7, 7, 7, 7, 7, 7, 7, 7, 7, 7, 7, 8, 8, 8, 8, 8, 8, 8, 8, 8, 8, 8, 8, 8, 8, 8, 8, 8, 8, 8, 8, 8, 8, 8, 8, 8, 8, 8, 8, 8, 8, 8, 8, 8, 8, 8, 8, 8, 8, 8, 8, 8, 8, 8, 8, 8, 8, 8, 8, 8, 8, 8, 8, 8, 8, 8, 8, 8, 8, 8, 8, 8, 8, 8, 8, 8, 8, 8, 8, 8, 8, 8, 8, 8, 8, 8, 8, 8, 8, 8, 8, 8, 8, 8, 8, 8, 8, 8, 8, 8, 8, 8, 8, 8, 8, 8, 8, 8, 8, 8, 8, 8, 8, 8, 8, 8, 8, 8, 8, 8, 8, 8, 8, 8, 8, 8, 8, 8, 8, 8, 8, 8, 8, 8, 8, 8, 8, 8, 8]⟩
def str_1 : ByteArray := ⟨#[97, 32, 46, 45, 32, 98, 32, 45, 46, 46, 46, 32, 99, 32, 45, 46, 45, 46, 32, 100, 32, 45, 46, 46, 32, 101, 32, 46, 32, 102, 32, 46, 46, 45, 46, 32, 103, 32, 45, 45, 46, 32, 104, 32, 46, 46, 46, 46, 32, 105, 32, 46, 46, 32, 106, 32, 46, 45, 45, 45, 32, 107, 32, 45, 46, 45, 32, 108, 32, 46, 45, 46, 46, 32, 109, 32, 45, 45, 32, 110, 32, 45, 46, 32, 111, 32, 45, 45, 45, 32, 112, 32, 46, 45, 45, 46, 32, 113, 32, 45, 45, 46, 45, 32, 114, 32, 46, 45, 46, 32, 115, 32, 46, 46, 46, 32, 116, 32, 45, 32, 117, 32, 46, 46, 45, 32, 118, 32, 46, 46, 46, 45, 32, 119, 32, 46, 45, 45, 32, 120, 32, 45, 46, 46, 45, 32, 121, 32, 45, 46, 45, 45, 32, 122, 32, 45, 45, 46, 46, 32, 48, 32, 45, 45, 45, 45, 45, 32, 49, 32, 46, 45, 45, 45, 45, 32, 50, 32, 46, 46, 45, 45, 45, 32, 51, 32, 46, 46, 46, 45, 45, 32, 52, 32, 46, 46, 46, 46, 45, 32, 53, 32, 46, 46, 46, 46, 46, 32, 54, 32, 45, 46, 46, 46, 46, 32, 55, 32, 45, 45, 46, 46, 46, 32, 56, 32, 45, 45, 45, 46, 46, 32, 57, 32, 45, 45, 45, 45, 46, 32, 47, 32, 45, 46, 46, 45, 46, 32, 63, 32, 46, 46, 45, 45, 46, 46, 32, 61, 32, 45, 46, 46, 46, 45, 32, 43, 32, 46, 45, 46, 45, 46]⟩
def e_IIII.c : (Int × Int × Int × Int) → Nat → AV
  | x, 0 => .int .i64 x.1
  | x, 1 => .int .u8 x.2.1
  | x, 2 => .int .i64 x.2.2.1
  | x, _ => .int .i64 x.2.2.2
def e_IIII : Enc (Int × Int × Int × Int) := ⟨4, (0, 0, 0, 0), e_IIII.c⟩
def e_II.c : (Int × Int) → Nat → AV
  | x, 0 => .int .i64 x.1
  | x, _ => .int .i64 x.2
def e_II : Enc (Int × Int) := ⟨2, (0, 0), e_II.c⟩
def e_SS.c : (ByteArray × ByteArray) → Nat → AV
  | x, 0 => .str x.1
  | x, _ => .str x.2
def e_SS : Enc (ByteArray × ByteArray) := ⟨2, (ByteArray.empty, ByteArray.empty), e_SS.c⟩
def e_L.c : List ByteArray → Nat → AV
  | x, _ => sq eS x
def e_L : Enc (List ByteArray) := ⟨1, [], e_L.c⟩
/-! ### pilemake_Below: function 45 -/
def pilemake_Below.j6 : Nat → Int → Option (Int)
  | 0, _ => Option.none
  | k + 1, x0j6 => Option.some x0j6
def pilemake_Below.f (k : Nat) (a0 : Int) (a1 : Int) : Option (Int) := (if a1 < 1 then Option.some 0 else (if a1 = 0 then Option.none else (if Int.tmod a0 a1 < 0 then pilemake_Below.j6 k (wrap64 ((Int.tmod a0 a1) + a1)) else pilemake_Below.j6 k (Int.tmod a0 a1))))
theorem pilemake_Below.loops : ∀ k, (∀ (x0j6 : Int), RS (fam Tryz.f45 [6] [] [] (fun r : Int => .int .i64 r) (fun r => [])) (Func.reg Tryz.f45 6) ⟨ofT [(0, .int .i64 x0j6)], ofL []⟩ (pilemake_Below.j6 k x0j6))
  | 0 => by intro _; simp only [pilemake_Below.j6]; exact RS.none
  | k + 1 => by
    have ih := pilemake_Below.loops k
    · intro x0j6
      simp only [pilemake_Below.j6]
      refine RS.region ?_
      refine RS.go ?_
      exact RT.done rfl rfl (Le.refl _) trivial rfl (dom0 rfl)
theorem pilemake_Below.ok (k : Nat) (a0 : Int) (a1 : Int) (r : Int) (h : pilemake_Below.f k a0 a1 = some r) : Ct Tryz.prog B 45 [.int .i64 a0, .int .i64 a1] (ofL []) (.int .i64 r) (ofL []) := by
  refine Ct.of (Y := (fam Tryz.f45 [6] [] [] (fun r : Int => .int .i64 r) (fun r => []))) Tryz.func45 rfl Tryz.call45 rfl rfl ?_ r h
  unfold pilemake_Below.f
  refine RS.go ?_
  refine RT.br rfl (fun c3 => ?_) (fun c3 => ?_)
  · exact RT.done rfl rfl (Le.refl _) trivial rfl (dom0 rfl)
  · refine RT.br rfl (fun _ => RT.none) (fun c2 => ?_)
    refine RT.br rfl (fun c1 => ?_) (fun c1 => ?_)
    · refine RT.goto rfl ?_
      refine RS.weak [(0, .int .i64 (wrap64 ((Int.tmod a0 a1) + a1)))] [] ⟨Le.eq (by first | rfl | simp), trivial⟩ trivial rfl (dom0 rfl) ?_
      exact pilemake_Below.loops k (wrap64 ((Int.tmod a0 a1) + a1)) 
    · refine RT.goto rfl ?_
      refine RS.weak [(0, .int .i64 (Int.tmod a0 a1))] [] ⟨Le.eq (by first | rfl | simp), trivial⟩ trivial rfl (dom0 rfl) ?_
      exact pilemake_Below.loops k (Int.tmod a0 a1) 
/-! ### pilemake_Stream_Next: function 20 -/
def pilemake_Stream_Next.k0 : List DK := [⟨[48], [], [6], []⟩, ⟨[42, 47], [], [48], []⟩, ⟨[46], [], [47], []⟩, ⟨[45], [100000], [46], []⟩, ⟨[44], [100000], [45], []⟩, ⟨[43], [100000], [44], []⟩, ⟨[0], [], [43], []⟩, ⟨[41], [], [42], []⟩, ⟨[40], [100000], [41], []⟩, ⟨[39], [100000], [40], []⟩, ⟨[38], [100000], [39], []⟩, ⟨[0], [], [38], []⟩]
def pilemake_Stream_Next.k1 : List Nat := [0, 1, 3, 7, 15, 0, 32, 96, 224, 480, 1023, 2047]
def pilemake_Stream_Next.k2 : List DK := [⟨[37], [], [5], []⟩, ⟨[31, 36], [], [37], []⟩, ⟨[35], [], [36], []⟩, ⟨[34], [100000], [35], []⟩, ⟨[33], [100000], [34], []⟩, ⟨[32], [100000], [33], []⟩, ⟨[0], [], [32], []⟩, ⟨[30], [], [31], []⟩, ⟨[29], [100000], [30], []⟩, ⟨[28], [100000], [29], []⟩, ⟨[27], [100000], [28], []⟩, ⟨[0], [], [27], []⟩]
def pilemake_Stream_Next.f (k : Nat) (p0_0 : List Int) (p0_1 : Int) (a1 : Int) : Option (Int × (List Int) × Int) := (if (p0_0.length : Int) = 0 then ((pilemake_Below.f k (wrap64 ((wrap64 (p0_1 + 1)) * 7919)) a1).bind fun r1 => Option.some (r1, p0_0, wrap64 (p0_1 + 1))) else (if (p0_0.length : Int) = 0 then Option.none else (if (p0_0.length : Int) = 0 then Option.none else (if 0 ≤ Int.tmod (wrap64 ((wrap64 (p0_1 + 1)) - 1)) (p0_0.length : Int) then (if Int.tmod (wrap64 ((wrap64 (p0_1 + 1)) - 1)) (p0_0.length : Int) < (p0_0.length : Int) then ((pilemake_Below.f k (rd p0_0 (Int.tmod (wrap64 ((wrap64 (p0_1 + 1)) - 1)) (p0_0.length : Int))) 1073741824).bind fun r4 => ((pilemake_Below.f k (wrap64 (r4 + (wrap64 ((wrap64 (Int.tdiv (wrap64 ((wrap64 (p0_1 + 1)) - 1)) (p0_0.length : Int))) * (wrap64 (7919 + (Int.tmod (wrap64 ((wrap64 (p0_1 + 1)) - 1)) (p0_0.length : Int)))))))) a1).bind fun r5 => Option.some (r5, p0_0, wrap64 (p0_1 + 1)))) else Option.none) else Option.none))))
theorem pilemake_Stream_Next.ok (k : Nat) (p0_0 : List Int) (p0_1 : Int) (a1 : Int) (r : Int × (List Int) × Int) (h : pilemake_Stream_Next.f k p0_0 p0_1 a1 = some r) : Ct Tryz.prog B 20 [.ref 100000 0 0 0 2, .int .i64 a1] (ofL [(100000, .box [sq eI p0_0, .int .i64 p0_1])]) (.int .i64 r.1) (ofL [(100000, .box [sq eI r.2.1, .int .i64 r.2.2])]) := by
  refine Ct.of (Y := (fam Tryz.f20 [] [] [(100000, .box [sq eI p0_0, .int .i64 p0_1])] (fun r : Int × (List Int) × Int => .int .i64 r.1) (fun r => [(100000, .box [sq eI r.2.1, .int .i64 r.2.2])]))) Tryz.func20 rfl Tryz.call20 rfl rfl ?_ r h
  unfold pilemake_Stream_Next.f
  refine RS.go ?_
  refine RT.br rfl (fun c8 => ?_) (fun c8 => ?_)
  · refine RT.call0 rfl (fun _ h => pilemake_Below.ok k (wrap64 ((wrap64 (p0_1 + 1)) * 7919)) a1 _ h) (LeL.eq rfl) (fun _ => rfl) (fun r1 => ?_)
    refine RS.go ?_
    exact RT.done rfl rfl (Le.refl _) ⟨⟨_, rfl, LeO.refl _⟩, trivial⟩ rfl (dom_of rfl)
  · refine RT.goto rfl ?_
    refine RS.draw rfl ?_
    refine RD.br rfl (fun _ => RD.none) (fun c7 => ?_)
    refine RD.fin pilemake_Stream_Next.k2 pilemake_Stream_Next.k1 rfl rfl (by decide +kernel) ?_
    refine RS.go ?_
    refine RT.goto rfl ?_
    refine RS.draw rfl ?_
    refine RD.br rfl (fun _ => RD.none) (fun c6 => ?_)
    refine RD.fin pilemake_Stream_Next.k0 pilemake_Stream_Next.k1 rfl rfl (by decide +kernel) ?_
    refine RS.go ?_
    refine RT.br rfl (fun c2 => ?_) (fun c2 => RT.none)
    refine RT.br rfl (fun c3 => ?_) (fun c3 => RT.none)
    refine RT.call0 rfl (fun _ h => pilemake_Below.ok k (rd p0_0 (Int.tmod (wrap64 ((wrap64 (p0_1 + 1)) - 1)) (p0_0.length : Int))) 1073741824 _ h) (LeL.eq rfl) (fun _ => rfl) (fun r4 => ?_)
    refine RS.go ?_
    refine RT.call0 rfl (fun _ h => pilemake_Below.ok k (wrap64 (r4 + (wrap64 ((wrap64 (Int.tdiv (wrap64 ((wrap64 (p0_1 + 1)) - 1)) (p0_0.length : Int))) * (wrap64 (7919 + (Int.tmod (wrap64 ((wrap64 (p0_1 + 1)) - 1)) (p0_0.length : Int)))))))) a1 _ h) (LeL.eq rfl) (fun _ => rfl) (fun r5 => ?_)
    refine RS.go ?_
    exact RT.done rfl rfl (Le.refl _) ⟨⟨_, rfl, LeO.refl _⟩, trivial⟩ rfl (dom_of rfl)
/-! ### pilemake_Stream_Range: function 33 -/
def pilemake_Stream_Range.f (k : Nat) (p0_0 : List Int) (p0_1 : Int) (a1 : Int) (a2 : Int) : Option (Int × (List Int) × Int) := (if a2 < a1 then Option.some (a1, p0_0, p0_1) else ((pilemake_Stream_Next.f k p0_0 p0_1 (wrap64 ((wrap64 (a2 - a1)) + 1))).bind fun r1 => Option.some (wrap64 (a1 + r1.1), r1.2.1, r1.2.2)))
theorem pilemake_Stream_Range.ok (k : Nat) (p0_0 : List Int) (p0_1 : Int) (a1 : Int) (a2 : Int) (r : Int × (List Int) × Int) (h : pilemake_Stream_Range.f k p0_0 p0_1 a1 a2 = some r) : Ct Tryz.prog B 33 [.ref 100000 0 0 0 2, .int .i64 a1, .int .i64 a2] (ofL [(100000, .box [sq eI p0_0, .int .i64 p0_1])]) (.int .i64 r.1) (ofL [(100000, .box [sq eI r.2.1, .int .i64 r.2.2])]) := by
  refine Ct.of (Y := (fam Tryz.f33 [] [] [(100000, .box [sq eI p0_0, .int .i64 p0_1])] (fun r : Int × (List Int) × Int => .int .i64 r.1) (fun r => [(100000, .box [sq eI r.2.1, .int .i64 r.2.2])]))) Tryz.func33 rfl Tryz.call33 rfl rfl ?_ r h
  unfold pilemake_Stream_Range.f
  refine RS.go ?_
  refine RT.br rfl (fun c2 => ?_) (fun c2 => ?_)
  · exact RT.done rfl rfl (Le.refl _) ⟨⟨_, rfl, LeO.refl _⟩, trivial⟩ rfl (dom_of rfl)
  · refine RT.call rfl (fun _ h => pilemake_Stream_Next.ok k p0_0 p0_1 (wrap64 ((wrap64 (a2 - a1)) + 1)) _ h) (fun i => bif Nat.beq i 100000 then 100000 else i) (LeL.eq rfl) ⟨⟨_, rfl, LeO.refl _⟩, trivial⟩ (fun _ => rfl) (fun r1 => ?_)
    refine RS.go ?_
    exact RT.done rfl rfl (Le.refl _) ⟨⟨_, rfl, LeO.refl _⟩, trivial⟩ rfl (dom_of rfl)
/-! ### pilemake_Stream_Pick: function 7 -/
def pilemake_Stream_Pick.f (k : Nat) (p0_0 : List Int) (p0_1 : Int) (l1 : List Int) : Option (Int × (List Int) × Int) := ((pilemake_Stream_Next.f k p0_0 p0_1 (l1.length : Int)).bind fun r1 => (if 0 ≤ r1.1 then (if r1.1 < (l1.length : Int) then Option.some ((rd l1 r1.1), r1.2.1, r1.2.2) else Option.none) else Option.none))
theorem pilemake_Stream_Pick.ok (k : Nat) (p0_0 : List Int) (p0_1 : Int) (l1 : List Int) (r : Int × (List Int) × Int) (h : pilemake_Stream_Pick.f k p0_0 p0_1 l1 = some r) : Ct Tryz.prog B 7 [.ref 100000 0 0 0 2, sq eI l1] (ofL [(100000, .box [sq eI p0_0, .int .i64 p0_1])]) (.int .i64 r.1) (ofL [(100000, .box [sq eI r.2.1, .int .i64 r.2.2])]) := by
  refine Ct.of (Y := (fam Tryz.f7 [] [] [(100000, .box [sq eI p0_0, .int .i64 p0_1])] (fun r : Int × (List Int) × Int => .int .i64 r.1) (fun r => [(100000, .box [sq eI r.2.1, .int .i64 r.2.2])]))) Tryz.func7 rfl Tryz.call7 rfl rfl ?_ r h
  unfold pilemake_Stream_Pick.f
  refine RS.go ?_
  refine RT.call rfl (fun _ h => pilemake_Stream_Next.ok k p0_0 p0_1 (l1.length : Int) _ h) (fun i => bif Nat.beq i 100000 then 100000 else i) (LeL.eq rfl) ⟨⟨_, rfl, LeO.refl _⟩, trivial⟩ (fun _ => rfl) (fun r1 => ?_)
  refine RS.go ?_
  refine RT.br rfl (fun c2 => ?_) (fun c2 => RT.none)
  refine RT.br rfl (fun c3 => ?_) (fun c3 => RT.none)
  exact RT.done rfl rfl (Le.refl _) ⟨⟨_, rfl, LeO.refl _⟩, trivial⟩ rfl (dom_of rfl)
/-! ### pilemake_Stream_Flip: function 34 -/
def pilemake_Stream_Flip.f (k : Nat) (p0_0 : List Int) (p0_1 : Int) (a1 : Int) : Option (Bool × (List Int) × Int) := ((pilemake_Stream_Next.f k p0_0 p0_1 a1).bind fun r1 => Option.some ((decide (r1.1 = 0)), r1.2.1, r1.2.2))
theorem pilemake_Stream_Flip.ok (k : Nat) (p0_0 : List Int) (p0_1 : Int) (a1 : Int) (r : Bool × (List Int) × Int) (h : pilemake_Stream_Flip.f k p0_0 p0_1 a1 = some r) : Ct Tryz.prog B 34 [.ref 100000 0 0 0 2, .int .i64 a1] (ofL [(100000, .box [sq eI p0_0, .int .i64 p0_1])]) (.bool r.1) (ofL [(100000, .box [sq eI r.2.1, .int .i64 r.2.2])]) := by
  refine Ct.of (Y := (fam Tryz.f34 [] [] [(100000, .box [sq eI p0_0, .int .i64 p0_1])] (fun r : Bool × (List Int) × Int => .bool r.1) (fun r => [(100000, .box [sq eI r.2.1, .int .i64 r.2.2])]))) Tryz.func34 rfl Tryz.call34 rfl rfl ?_ r h
  unfold pilemake_Stream_Flip.f
  refine RS.go ?_
  refine RT.call rfl (fun _ h => pilemake_Stream_Next.ok k p0_0 p0_1 a1 _ h) (fun i => bif Nat.beq i 100000 then 100000 else i) (LeL.eq rfl) ⟨⟨_, rfl, LeO.refl _⟩, trivial⟩ (fun _ => rfl) (fun r1 => ?_)
  refine RS.go ?_
  exact RT.done rfl rfl (Le.refl _) ⟨⟨_, rfl, LeO.refl _⟩, trivial⟩ rfl (dom_of rfl)
/-! ### pilemake_Stream_Odd: function 43 -/
def pilemake_Stream_Odd.f (k : Nat) (p0_0 : List Int) (p0_1 : Int) (a1 : Int) (a2 : Int) : Option (Int × (List Int) × Int) := ((pilemake_Stream_Flip.f k p0_0 p0_1 12).bind fun r1 => (if r1.1 = true then ((pilemake_Stream_Pick.f k r1.2.1 r1.2.2 [wrap64 (a1 - 1), wrap64 (a2 + 1), a1, a2, (-1099511627776), 1099511627776]).bind fun r2 => Option.some (r2.1, r2.2.1, r2.2.2)) else ((pilemake_Stream_Range.f k r1.2.1 r1.2.2 a1 a2).bind fun r3 => Option.some (r3.1, r3.2.1, r3.2.2))))
theorem pilemake_Stream_Odd.ok (k : Nat) (p0_0 : List Int) (p0_1 : Int) (a1 : Int) (a2 : Int) (r : Int × (List Int) × Int) (h : pilemake_Stream_Odd.f k p0_0 p0_1 a1 a2 = some r) : Ct Tryz.prog B 43 [.ref 100000 0 0 0 2, .int .i64 a1, .int .i64 a2] (ofL [(100000, .box [sq eI p0_0, .int .i64 p0_1])]) (.int .i64 r.1) (ofL [(100000, .box [sq eI r.2.1, .int .i64 r.2.2])]) := by
  refine Ct.of (Y := (fam Tryz.f43 [] [] [(100000, .box [sq eI p0_0, .int .i64 p0_1])] (fun r : Int × (List Int) × Int => .int .i64 r.1) (fun r => [(100000, .box [sq eI r.2.1, .int .i64 r.2.2])]))) Tryz.func43 rfl Tryz.call43 rfl rfl ?_ r h
  unfold pilemake_Stream_Odd.f
  refine RS.go ?_
  refine RT.call rfl (fun _ h => pilemake_Stream_Flip.ok k p0_0 p0_1 12 _ h) (fun i => bif Nat.beq i 100000 then 100000 else i) (LeL.eq rfl) ⟨⟨_, rfl, LeO.refl _⟩, trivial⟩ (fun _ => rfl) (fun r1 => ?_)
  refine RS.go ?_
  refine RT.brB rfl (fun c4 => ?_) (fun c4 => ?_)
  · refine RT.goto rfl ?_
    refine RS.slot 16 (sq eI [wrap64 (a1 - 1), wrap64 (a2 + 1), a1, a2, (-1099511627776), 1099511627776]) (Le.lit (E := eI) (l := [wrap64 (a1 - 1), wrap64 (a2 + 1), a1, a2, (-1099511627776), 1099511627776]) (cells_of rfl)) ?_
    refine RS.go ?_
    refine RT.call rfl (fun _ h => pilemake_Stream_Pick.ok k r1.2.1 r1.2.2 [wrap64 (a1 - 1), wrap64 (a2 + 1), a1, a2, (-1099511627776), 1099511627776] _ h) (fun i => bif Nat.beq i 100000 then 100000 else i) (LeL.eq rfl) ⟨⟨_, rfl, LeO.refl _⟩, trivial⟩ (fun _ => rfl) (fun r2 => ?_)
    refine RS.go ?_
    exact RT.done rfl rfl (Le.refl _) ⟨⟨_, rfl, LeO.refl _⟩, trivial⟩ rfl (dom_of rfl)
  · refine RT.call rfl (fun _ h => pilemake_Stream_Range.ok k r1.2.1 r1.2.2 a1 a2 _ h) (fun i => bif Nat.beq i 100000 then 100000 else i) (LeL.eq rfl) ⟨⟨_, rfl, LeO.refl _⟩, trivial⟩ (fun _ => rfl) (fun r3 => ?_)
    refine RS.go ?_
    exact RT.done rfl rfl (Le.refl _) ⟨⟨_, rfl, LeO.refl _⟩, trivial⟩ rfl (dom_of rfl)
/-! ### pilemake_Stream_SiteOf: function 18 -/
def pilemake_Stream_SiteOf.j4 : Nat → Int → Int → List Int → Int → Option (Int × Int × (List Int) × Int)
  | 0, _, _, _, _ => Option.none
  | k + 1, o3_0j4, o3_1j4, o100000_0j4, o100000_1j4 => Option.some (o3_0j4, o3_1j4, o100000_0j4, o100000_1j4)
def pilemake_Stream_SiteOf.f (k : Nat) (p0_0 : List Int) (p0_1 : Int) : Option (Int × Int × (List Int) × Int) := ((pilemake_Stream_Range.f k p0_0 p0_1 (-324000) 324000).bind fun r1 => ((pilemake_Stream_Pick.f k r1.2.1 r1.2.2 [0, 172800, 174599, (-324000), 324000, r1.1]).bind fun r2 => ((pilemake_Stream_Range.f k r2.2.1 r2.2.2 (-648000) 647999).bind fun r3 => ((pilemake_Stream_Pick.f k r3.2.1 r3.2.2 [0, 36000, (-648000), 647999, r3.1]).bind fun r4 => ((pilemake_Stream_Flip.f k r4.2.1 r4.2.2 20).bind fun r5 => (if r5.1 = true then ((pilemake_Stream_Odd.f k r5.2.1 r5.2.2 (-324000) 324000).bind fun r6 => ((pilemake_Stream_Odd.f k r6.2.1 r6.2.2 (-648000) 647999).bind fun r7 => pilemake_Stream_SiteOf.j4 k r6.1 r7.1 r7.2.1 r7.2.2)) else pilemake_Stream_SiteOf.j4 k r2.1 r4.1 r5.2.1 r5.2.2))))))
theorem pilemake_Stream_SiteOf.loops (p0_0 : List Int) (p0_1 : Int) : ∀ k, (∀ (o3_0j4 : Int) (o3_1j4 : Int) (o100000_0j4 : List Int) (o100000_1j4 : Int), RS (fam Tryz.f18 [4] [] [(100000, .box [sq eI p0_0, .int .i64 p0_1])] (fun r : Int × Int × (List Int) × Int => .agg [.int .i64 r.1, .int .i64 r.2.1]) (fun r => [(100000, .box [sq eI r.2.2.1, .int .i64 r.2.2.2])])) (Func.reg Tryz.f18 4) ⟨ofT [(2, .ref 2 0 0 0 2), (3, .ref 3 0 0 0 2)], ofL [(2, .box [.int .i64 0, .int .i64 0]), (3, .box [.int .i64 o3_0j4, .int .i64 o3_1j4]), (100000, .box [sq eI o100000_0j4, .int .i64 o100000_1j4])]⟩ (pilemake_Stream_SiteOf.j4 k o3_0j4 o3_1j4 o100000_0j4 o100000_1j4))
  | 0 => by intro _ _ _ _; simp only [pilemake_Stream_SiteOf.j4]; exact RS.none
  | k + 1 => by
    have ih := pilemake_Stream_SiteOf.loops p0_0 p0_1 k
    · intro o3_0j4 o3_1j4 o100000_0j4 o100000_1j4
      simp only [pilemake_Stream_SiteOf.j4]
      refine RS.region ?_
      refine RS.go ?_
      exact RT.done rfl rfl (Le.refl _) ⟨⟨_, rfl, LeO.refl _⟩, trivial⟩ rfl (dom_of rfl)
theorem pilemake_Stream_SiteOf.ok (k : Nat) (p0_0 : List Int) (p0_1 : Int) (r : Int × Int × (List Int) × Int) (h : pilemake_Stream_SiteOf.f k p0_0 p0_1 = some r) : Ct Tryz.prog B 18 [.ref 100000 0 0 0 2] (ofL [(100000, .box [sq eI p0_0, .int .i64 p0_1])]) (.agg [.int .i64 r.1, .int .i64 r.2.1]) (ofL [(100000, .box [sq eI r.2.2.1, .int .i64 r.2.2.2])]) := by
  refine Ct.of (Y := (fam Tryz.f18 [4] [] [(100000, .box [sq eI p0_0, .int .i64 p0_1])] (fun r : Int × Int × (List Int) × Int => .agg [.int .i64 r.1, .int .i64 r.2.1]) (fun r => [(100000, .box [sq eI r.2.2.1, .int .i64 r.2.2.2])]))) Tryz.func18 rfl Tryz.call18 rfl rfl ?_ r h
  unfold pilemake_Stream_SiteOf.f
  refine RS.go ?_
  refine RT.call rfl (fun _ h => pilemake_Stream_Range.ok k p0_0 p0_1 (-324000) 324000 _ h) (fun i => bif Nat.beq i 100000 then 100000 else i) (LeL.eq rfl) ⟨⟨_, rfl, LeO.refl _⟩, trivial⟩ (fun _ => rfl) (fun r1 => ?_)
  refine RS.go ?_
  refine RT.goto rfl ?_
  refine RS.slot 7 (sq eI [0, 172800, 174599, (-324000), 324000, r1.1]) (Le.lit (E := eI) (l := [0, 172800, 174599, (-324000), 324000, r1.1]) (cells_of rfl)) ?_
  refine RS.go ?_
  refine RT.call rfl (fun _ h => pilemake_Stream_Pick.ok k r1.2.1 r1.2.2 [0, 172800, 174599, (-324000), 324000, r1.1] _ h) (fun i => bif Nat.beq i 100000 then 100000 else i) (LeL.eq rfl) ⟨⟨_, rfl, LeO.refl _⟩, trivial⟩ (fun _ => rfl) (fun r2 => ?_)
  refine RS.go ?_
  refine RT.call rfl (fun _ h => pilemake_Stream_Range.ok k r2.2.1 r2.2.2 (-648000) 647999 _ h) (fun i => bif Nat.beq i 100000 then 100000 else i) (LeL.eq rfl) ⟨⟨_, rfl, LeO.refl _⟩, trivial⟩ (fun _ => rfl) (fun r3 => ?_)
  refine RS.go ?_
  refine RT.goto rfl ?_
  refine RS.slot 12 (sq eI [0, 36000, (-648000), 647999, r3.1]) (Le.lit (E := eI) (l := [0, 36000, (-648000), 647999, r3.1]) (cells_of rfl)) ?_
  refine RS.go ?_
  refine RT.call rfl (fun _ h => pilemake_Stream_Pick.ok k r3.2.1 r3.2.2 [0, 36000, (-648000), 647999, r3.1] _ h) (fun i => bif Nat.beq i 100000 then 100000 else i) (LeL.eq rfl) ⟨⟨_, rfl, LeO.refl _⟩, trivial⟩ (fun _ => rfl) (fun r4 => ?_)
  refine RS.go ?_
  refine RT.call rfl (fun _ h => pilemake_Stream_Flip.ok k r4.2.1 r4.2.2 20 _ h) (fun i => bif Nat.beq i 100000 then 100000 else i) (LeL.eq rfl) ⟨⟨_, rfl, LeO.refl _⟩, trivial⟩ (fun _ => rfl) (fun r5 => ?_)
  refine RS.go ?_
  refine RT.brB rfl (fun c8 => ?_) (fun c8 => ?_)
  · refine RT.call rfl (fun _ h => pilemake_Stream_Odd.ok k r5.2.1 r5.2.2 (-324000) 324000 _ h) (fun i => bif Nat.beq i 100000 then 100000 else i) (LeL.eq rfl) ⟨⟨_, rfl, LeO.refl _⟩, trivial⟩ (fun _ => rfl) (fun r6 => ?_)
    refine RS.go ?_
    refine RT.call rfl (fun _ h => pilemake_Stream_Odd.ok k r6.2.1 r6.2.2 (-648000) 647999 _ h) (fun i => bif Nat.beq i 100000 then 100000 else i) (LeL.eq rfl) ⟨⟨_, rfl, LeO.refl _⟩, trivial⟩ (fun _ => rfl) (fun r7 => ?_)
    refine RS.go ?_
    refine RT.goto rfl ?_
    refine RS.weak [(2, .ref 2 0 0 0 2), (3, .ref 3 0 0 0 2)] [(2, .box [.int .i64 0, .int .i64 0]), (3, .box [.int .i64 r6.1, .int .i64 r7.1]), (100000, .box [sq eI r7.2.1, .int .i64 r7.2.2])] ⟨Le.eq (by first | rfl | simp), Le.eq (by first | rfl | simp), trivial⟩ ⟨⟨_, rfl, LeO.refl _⟩, ⟨_, rfl, LeO.refl _⟩, ⟨_, rfl, LeO.refl _⟩, trivial⟩ rfl (dom_of rfl) ?_
    exact pilemake_Stream_SiteOf.loops p0_0 p0_1 k r6.1 r7.1 r7.2.1 r7.2.2 
  · refine RT.goto rfl ?_
    refine RS.weak [(2, .ref 2 0 0 0 2), (3, .ref 3 0 0 0 2)] [(2, .box [.int .i64 0, .int .i64 0]), (3, .box [.int .i64 r2.1, .int .i64 r4.1]), (100000, .box [sq eI r5.2.1, .int .i64 r5.2.2])] ⟨Le.eq (by first | rfl | simp), Le.eq (by first | rfl | simp), trivial⟩ ⟨⟨_, rfl, LeO.refl _⟩, ⟨_, rfl, LeO.refl _⟩, ⟨_, rfl, LeO.refl _⟩, trivial⟩ rfl (dom_of rfl) ?_
    exact pilemake_Stream_SiteOf.loops p0_0 p0_1 k r2.1 r4.1 r5.2.1 r5.2.2 
/-! ### pileref1_in: function 44 -/
def pileref1_in.f (a0 : Int) (a1 : Int) (a2 : Int) : Option (Bool) := (if a1 ≤ a0 then Option.some (decide (a0 ≤ a2)) else Option.some false)
theorem pileref1_in.ok (a0 : Int) (a1 : Int) (a2 : Int) (r : Bool) (h : pileref1_in.f a0 a1 a2 = some r) : Ct Tryz.prog B 44 [.int .i64 a0, .int .i64 a1, .int .i64 a2] (ofL []) (.bool r) (ofL []) := by
  refine Ct.of (Y := (fam Tryz.f44 [] [] [] (fun r : Bool => .bool r) (fun r => []))) Tryz.func44 rfl Tryz.call44 rfl rfl ?_ r h
  unfold pileref1_in.f
  refine RS.go ?_
  refine RT.br rfl (fun c1 => ?_) (fun c1 => ?_)
  · refine RT.brT rfl ?_
    refine RT.brT rfl ?_
    refine RT.brT rfl ?_
    exact RT.done rfl rfl (Le.refl _) trivial rfl (dom0 rfl)
  · refine RT.brF rfl ?_
    refine RT.brF rfl ?_
    refine RT.brF rfl ?_
    exact RT.done rfl rfl (Le.refl _) trivial rfl (dom0 rfl)
/-! ### pileref1_SiteFault: function 19 -/
def pileref1_SiteFault.f (a0_0 : Int) (a0_1 : Int) : Option (Int) := ((pileref1_in.f a0_0 (-324000) 324000).bind fun r1 => (if r1 = true then ((pileref1_in.f a0_1 (-648000) 647999).bind fun r2 => (if r2 = true then Option.some 0 else Option.some 1)) else Option.some 1))
theorem pileref1_SiteFault.ok (a0_0 : Int) (a0_1 : Int) (r : Int) (h : pileref1_SiteFault.f a0_0 a0_1 = some r) : Ct Tryz.prog B 19 [.agg [.int .i64 a0_0, .int .i64 a0_1]] (ofL []) (.int .i64 r) (ofL []) := by
  refine Ct.of (Y := (fam Tryz.f19 [] [] [] (fun r : Int => .int .i64 r) (fun r => []))) Tryz.func19 rfl Tryz.call19 rfl rfl ?_ r h
  unfold pileref1_SiteFault.f
  refine RS.go ?_
  refine RT.call0 rfl (fun _ h => pileref1_in.ok a0_0 (-324000) 324000 _ h) (LeL.eq rfl) (fun _ => rfl) (fun r1 => ?_)
  refine RS.go ?_
  refine RT.brBN rfl (fun c4 => ?_) (fun c4 => ?_)
  · refine RT.brF rfl ?_
    refine RT.brF rfl ?_
    refine RT.call0 rfl (fun _ h => pileref1_in.ok a0_1 (-648000) 647999 _ h) (LeL.eq rfl) (fun _ => rfl) (fun r2 => ?_)
    refine RS.go ?_
    refine RT.brF rfl ?_
    refine RT.brF rfl ?_
    refine RT.brBN rfl (fun c3 => ?_) (fun c3 => ?_)
    · exact RT.done rfl rfl (Le.refl _) trivial rfl (dom0 rfl)
    · exact RT.done rfl rfl (Le.refl _) trivial rfl (dom0 rfl)
  · refine RT.brT rfl ?_
    refine RT.brT rfl ?_
    refine RT.brT rfl ?_
    refine RT.brT rfl ?_
    refine RT.brT rfl ?_
    exact RT.done rfl rfl (Le.refl _) trivial rfl (dom0 rfl)
/-! ### pilemake_Stream_RightSite: function 6 -/
def pilemake_Stream_RightSite.l0 : Nat → Int → List Int → Int → Option (Int × Int × (List Int) × Int)
  | 0, _, _, _ => Option.none
  | k + 1, x4, o100000_0, o100000_1 => (if x4 < 6 then ((pilemake_Stream_SiteOf.f k o100000_0 o100000_1).bind fun r1 => ((pileref1_SiteFault.f r1.1 r1.2.1).bind fun r2 => (if r2 = 0 then Option.some (r1.1, r1.2.1, r1.2.2.1, r1.2.2.2) else pilemake_Stream_RightSite.l0 k (wrap64 (x4 + 1)) r1.2.2.1 r1.2.2.2))) else Option.some (0, 0, o100000_0, o100000_1))
def pilemake_Stream_RightSite.f (k : Nat) (p0_0 : List Int) (p0_1 : Int) : Option (Int × Int × (List Int) × Int) := pilemake_Stream_RightSite.l0 k 0 p0_0 p0_1
theorem pilemake_Stream_RightSite.loops (p0_0 : List Int) (p0_1 : Int) : ∀ k, (∀ (x4 : Int) (o100000_0 : List Int) (o100000_1 : Int), RS (fam Tryz.f6 [] [] [(100000, .box [sq eI p0_0, .int .i64 p0_1])] (fun r : Int × Int × (List Int) × Int => .agg [.int .i64 r.1, .int .i64 r.2.1]) (fun r => [(100000, .box [sq eI r.2.2.1, .int .i64 r.2.2.2])])) (Func.head Tryz.f6 0) ⟨ofT [(0, .ref 100000 0 0 0 2), (2, .ref 2 0 0 0 2), (4, .int .i64 x4)], ofL [(2, .box [.int .i64 0, .int .i64 0]), (100000, .box [sq eI o100000_0, .int .i64 o100000_1])]⟩ (pilemake_Stream_RightSite.l0 k x4 o100000_0 o100000_1))
  | 0 => by intro _ _ _; simp only [pilemake_Stream_RightSite.l0]; exact RS.none
  | k + 1 => by
    have ih := pilemake_Stream_RightSite.loops p0_0 p0_1 k
    · intro x4 o100000_0 o100000_1
      simp only [pilemake_Stream_RightSite.l0]
      refine RS.go ?_
      refine RT.br rfl (fun c4 => ?_) (fun c4 => ?_)
      · refine RT.call rfl (fun _ h => pilemake_Stream_SiteOf.ok k o100000_0 o100000_1 _ h) (fun i => bif Nat.beq i 100000 then 100000 else i) (LeL.eq rfl) ⟨⟨_, rfl, LeO.refl _⟩, trivial⟩ (fun _ => rfl) (fun r1 => ?_)
        refine RS.go ?_
        refine RT.call0 rfl (fun _ h => pileref1_SiteFault.ok r1.1 r1.2.1 _ h) (LeL.eq rfl) (fun _ => rfl) (fun r2 => ?_)
        refine RS.go ?_
        refine RT.br rfl (fun c3 => ?_) (fun c3 => ?_)
        · exact RT.done rfl rfl (Le.refl _) ⟨⟨_, rfl, LeO.refl _⟩, trivial⟩ rfl (dom_of rfl)
        · refine RT.goto rfl ?_
          refine RS.weak [(0, .ref 100000 0 0 0 2), (2, .ref 2 0 0 0 2), (4, .int .i64 (wrap64 (x4 + 1)))] [(2, .box [.int .i64 0, .int .i64 0]), (100000, .box [sq eI r1.2.2.1, .int .i64 r1.2.2.2])] ⟨Le.eq (by first | rfl | simp), Le.eq (by first | rfl | simp), Le.eq (by first | rfl | simp), trivial⟩ ⟨⟨_, rfl, LeO.refl _⟩, ⟨_, rfl, LeO.refl _⟩, trivial⟩ rfl (dom_of rfl) ?_
          exact ih (wrap64 (x4 + 1)) r1.2.2.1 r1.2.2.2 
      · exact RT.done rfl rfl (Le.refl _) ⟨⟨_, rfl, LeO.refl _⟩, trivial⟩ rfl (dom_of rfl)
theorem pilemake_Stream_RightSite.ok (k : Nat) (p0_0 : List Int) (p0_1 : Int) (r : Int × Int × (List Int) × Int) (h : pilemake_Stream_RightSite.f k p0_0 p0_1 = some r) : Ct Tryz.prog B 6 [.ref 100000 0 0 0 2] (ofL [(100000, .box [sq eI p0_0, .int .i64 p0_1])]) (.agg [.int .i64 r.1, .int .i64 r.2.1]) (ofL [(100000, .box [sq eI r.2.2.1, .int .i64 r.2.2.2])]) := by
  refine Ct.of (Y := (fam Tryz.f6 [] [] [(100000, .box [sq eI p0_0, .int .i64 p0_1])] (fun r : Int × Int × (List Int) × Int => .agg [.int .i64 r.1, .int .i64 r.2.1]) (fun r => [(100000, .box [sq eI r.2.2.1, .int .i64 r.2.2.2])]))) Tryz.func6 rfl Tryz.call6 rfl rfl ?_ r h
  unfold pilemake_Stream_RightSite.f
  refine RS.go ?_
  refine RT.goto rfl ?_
  refine RS.weak [(0, .ref 100000 0 0 0 2), (2, .ref 2 0 0 0 2), (4, .int .i64 0)] [(2, .box [.int .i64 0, .int .i64 0]), (100000, .box [sq eI p0_0, .int .i64 p0_1])] ⟨Le.eq (by first | rfl | simp), Le.eq (by first | rfl | simp), Le.eq (by first | rfl | simp), trivial⟩ ⟨⟨_, rfl, LeO.refl _⟩, ⟨_, rfl, LeO.refl _⟩, trivial⟩ rfl (dom_of rfl) ?_
  exact pilemake_Stream_RightSite.loops p0_0 p0_1 k 0 p0_0 p0_1 
/-! ### pileref1_LocatorFor_1: function 17 -/
def pileref1_LocatorFor_1.f (a0 : Int) (a1 : Int) : Option (ByteArray) := (if a1 = 0 then Option.none else Option.some (Utf8.encode (IntKind.i32.wrap (wrap64 (97 + (Int.tmod a0 a1))))))
theorem pileref1_LocatorFor_1.ok (a0 : Int) (a1 : Int) (r : ByteArray) (h : pileref1_LocatorFor_1.f a0 a1 = some r) : Ct Tryz.prog B 17 [.int .i64 a0, .int .i64 a1] (ofL []) (.str r) (ofL []) := by
  refine Ct.of (Y := (fam Tryz.f17 [] [] [] (fun r : ByteArray => .str r) (fun r => []))) Tryz.func17 rfl Tryz.call17 rfl rfl ?_ r h
  unfold pileref1_LocatorFor_1.f
  refine RS.go ?_
  refine RT.br rfl (fun _ => RT.none) (fun c1 => ?_)
  exact RT.done rfl rfl (Le.refl _) trivial rfl (dom0 rfl)
/-! ### pileref1_LocatorFor: function 5 -/
def pileref1_LocatorFor.k0 : List DK := [⟨[15], [], [6], []⟩, ⟨[11], [], [5], []⟩, ⟨[14], [], [15], []⟩, ⟨[13], [], [14], []⟩, ⟨[12], [2], [13], []⟩, ⟨[2], [2], [12], []⟩, ⟨[10], [], [11], []⟩, ⟨[9], [2], [10], []⟩, ⟨[2], [2], [9], []⟩]
def pileref1_LocatorFor.k1 : List Nat := [0, 1, 3, 0, 8, 24, 56, 7, 255]
mutual
def pileref1_LocatorFor.j8 : Nat → ByteArray → Option (ByteArray)
  | 0, _ => Option.none
  | k + 1, x8j8 => Option.some x8j8
def pileref1_LocatorFor.j6 : Nat → Int → Int → Int → ByteArray → Option (ByteArray)
  | 0, _, _, _, _ => Option.none
  | k + 1, a0_0, a0_1, a1, x8j6 => (if a1 > 4 then ((pileref1_LocatorFor_1.f (wrap64 (Int.tdiv (wrap64 (a0_1 + 648000)) 300)) 24).bind fun r6 => ((pileref1_LocatorFor_1.f (wrap64 (Int.tdiv (mn (wrap64 (a0_0 + 324000)) 647999) 150)) 24).bind fun r7 => (if r6.size + r7.size ≤ 9223372036854775807 then (if x8j6.size + (r6 ++ r7).size ≤ 9223372036854775807 then pileref1_LocatorFor.j8 k (x8j6 ++ (r6 ++ r7)) else Option.none) else Option.none))) else pileref1_LocatorFor.j8 k x8j6)
end
def pileref1_LocatorFor.f (k : Nat) (a0_0 : Int) (a0_1 : Int) (a1 : Int) : Option (ByteArray) := ((pileref1_LocatorFor_1.f (wrap64 (Int.tdiv (wrap64 (a0_1 + 648000)) 72000)) 18).bind fun r1 => ((pileref1_LocatorFor_1.f (wrap64 (Int.tdiv (mn (wrap64 (a0_0 + 324000)) 647999) 36000)) 18).bind fun r2 => (if r1.size + r2.size ≤ 9223372036854775807 then (if a1 > 2 then (if (Utf8.encode (IntKind.i32.wrap (wrap64 (48 + (Int.tmod (wrap64 (Int.tdiv (wrap64 (a0_1 + 648000)) 7200)) 10))))).size + (Utf8.encode (IntKind.i32.wrap (wrap64 (48 + (Int.tmod (wrap64 (Int.tdiv (mn (wrap64 (a0_0 + 324000)) 647999) 3600)) 10))))).size ≤ 9223372036854775807 then (if (r1 ++ r2).size + ((Utf8.encode (IntKind.i32.wrap (wrap64 (48 + (Int.tmod (wrap64 (Int.tdiv (wrap64 (a0_1 + 648000)) 7200)) 10))))) ++ (Utf8.encode (IntKind.i32.wrap (wrap64 (48 + (Int.tmod (wrap64 (Int.tdiv (mn (wrap64 (a0_0 + 324000)) 647999) 3600)) 10)))))).size ≤ 9223372036854775807 then pileref1_LocatorFor.j6 k a0_0 a0_1 a1 ((r1 ++ r2) ++ ((Utf8.encode (IntKind.i32.wrap (wrap64 (48 + (Int.tmod (wrap64 (Int.tdiv (wrap64 (a0_1 + 648000)) 7200)) 10))))) ++ (Utf8.encode (IntKind.i32.wrap (wrap64 (48 + (Int.tmod (wrap64 (Int.tdiv (mn (wrap64 (a0_0 + 324000)) 647999) 3600)) 10))))))) else Option.none) else Option.none) else pileref1_LocatorFor.j6 k a0_0 a0_1 a1 (r1 ++ r2)) else Option.none)))
theorem pileref1_LocatorFor.loops : ∀ k, (∀ (x8j8 : ByteArray), RS (fam Tryz.f5 [6, 8] [] [] (fun r : ByteArray => .str r) (fun r => [])) (Func.reg Tryz.f5 8) ⟨ofT [(8, .str x8j8)], ofL []⟩ (pileref1_LocatorFor.j8 k x8j8)) ∧ (∀ (a0_0 : Int) (a0_1 : Int) (a1 : Int) (x8j6 : ByteArray), RS (fam Tryz.f5 [6, 8] [] [] (fun r : ByteArray => .str r) (fun r => [])) (Func.reg Tryz.f5 6) ⟨ofT [(1, .int .i64 a1), (5, .int .i64 (wrap64 (a0_1 + 648000))), (6, .int .i64 (mn (wrap64 (a0_0 + 324000)) 647999)), (7, .fn 17 []), (8, .str x8j6)], ofL []⟩ (pileref1_LocatorFor.j6 k a0_0 a0_1 a1 x8j6))
  | 0 => ⟨by intro _; simp only [pileref1_LocatorFor.j8]; exact RS.none, by intro _ _ _ _; simp only [pileref1_LocatorFor.j6]; exact RS.none⟩
  | k + 1 => by
    have ih := pileref1_LocatorFor.loops k
    refine ⟨?_, ?_⟩
    · intro x8j8
      simp only [pileref1_LocatorFor.j8]
      refine RS.region ?_
      refine RS.go ?_
      exact RT.done rfl rfl (Le.refl _) trivial rfl (dom0 rfl)
    · intro a0_0 a0_1 a1 x8j6
      simp only [pileref1_LocatorFor.j6]
      refine RS.region ?_
      refine RS.go ?_
      refine RT.br rfl (fun c10 => ?_) (fun c10 => ?_)
      · refine RT.brF rfl ?_
        refine RT.call0 rfl (fun _ h => pileref1_LocatorFor_1.ok (wrap64 (Int.tdiv (wrap64 (a0_1 + 648000)) 300)) 24 _ h) (LeL.eq rfl) (fun _ => rfl) (fun r6 => ?_)
        refine RS.go ?_
        refine RT.brF rfl ?_
        refine RT.call0 rfl (fun _ h => pileref1_LocatorFor_1.ok (wrap64 (Int.tdiv (mn (wrap64 (a0_0 + 324000)) 647999) 150)) 24 _ h) (LeL.eq rfl) (fun _ => rfl) (fun r7 => ?_)
        refine RS.go ?_
        refine RT.br rfl (fun c8 => ?_) (fun c8 => RT.none)
        refine RT.br rfl (fun c9 => ?_) (fun c9 => RT.none)
        refine RT.goto rfl ?_
        refine RS.weak [(8, .str (x8j6 ++ (r6 ++ r7)))] [] ⟨Le.eq (by first | rfl | simp), trivial⟩ trivial rfl (dom0 rfl) ?_
        exact ih.1 (x8j6 ++ (r6 ++ r7)) 
      · refine RT.goto rfl ?_
        refine RS.weak [(8, .str x8j6)] [] ⟨Le.eq (by first | rfl | simp), trivial⟩ trivial rfl (dom0 rfl) ?_
        exact ih.1 x8j6 
theorem pileref1_LocatorFor.ok (k : Nat) (a0_0 : Int) (a0_1 : Int) (a1 : Int) (r : ByteArray) (h : pileref1_LocatorFor.f k a0_0 a0_1 a1 = some r) : Ct Tryz.prog B 5 [.agg [.int .i64 a0_0, .int .i64 a0_1], .int .i64 a1] (ofL []) (.str r) (ofL []) := by
  refine Ct.of (Y := (fam Tryz.f5 [6, 8] [] [] (fun r : ByteArray => .str r) (fun r => []))) Tryz.func5 rfl Tryz.call5 rfl rfl ?_ r h
  unfold pileref1_LocatorFor.f
  refine RS.go ?_
  refine RT.goto rfl ?_
  refine RS.draw rfl ?_
  refine RD.fin pileref1_LocatorFor.k0 pileref1_LocatorFor.k1 rfl rfl (by decide +kernel) ?_
  refine RS.go ?_
  refine RT.brF rfl ?_
  refine RT.call0 rfl (fun _ h => pileref1_LocatorFor_1.ok (wrap64 (Int.tdiv (wrap64 (a0_1 + 648000)) 72000)) 18 _ h) (LeL.eq rfl) (fun _ => rfl) (fun r1 => ?_)
  refine RS.go ?_
  refine RT.brF rfl ?_
  refine RT.call0 rfl (fun _ h => pileref1_LocatorFor_1.ok (wrap64 (Int.tdiv (mn (wrap64 (a0_0 + 324000)) 647999) 36000)) 18 _ h) (LeL.eq rfl) (fun _ => rfl) (fun r2 => ?_)
  refine RS.go ?_
  refine RT.br rfl (fun c3 => ?_) (fun c3 => RT.none)
  refine RT.br rfl (fun c11 => ?_) (fun c11 => ?_)
  · refine RT.brF rfl ?_
    refine RT.brF rfl ?_
    refine RT.brF rfl ?_
    refine RT.brF rfl ?_
    refine RT.br rfl (fun c4 => ?_) (fun c4 => RT.none)
    refine RT.br rfl (fun c5 => ?_) (fun c5 => RT.none)
    refine RT.goto rfl ?_
    refine RS.weak [(1, .int .i64 a1), (5, .int .i64 (wrap64 (a0_1 + 648000))), (6, .int .i64 (mn (wrap64 (a0_0 + 324000)) 647999)), (7, .fn 17 []), (8, .str ((r1 ++ r2) ++ ((Utf8.encode (IntKind.i32.wrap (wrap64 (48 + (Int.tmod (wrap64 (Int.tdiv (wrap64 (a0_1 + 648000)) 7200)) 10))))) ++ (Utf8.encode (IntKind.i32.wrap (wrap64 (48 + (Int.tmod (wrap64 (Int.tdiv (mn (wrap64 (a0_0 + 324000)) 647999) 3600)) 10))))))))] [] ⟨Le.eq (by first | rfl | simp), Le.eq (by first | rfl | simp), Le.eq (by first | rfl | simp), Le.eq (by first | rfl | simp), Le.eq (by first | rfl | simp), trivial⟩ trivial rfl (dom0 rfl) ?_
    exact (pileref1_LocatorFor.loops k).2 a0_0 a0_1 a1 ((r1 ++ r2) ++ ((Utf8.encode (IntKind.i32.wrap (wrap64 (48 + (Int.tmod (wrap64 (Int.tdiv (wrap64 (a0_1 + 648000)) 7200)) 10))))) ++ (Utf8.encode (IntKind.i32.wrap (wrap64 (48 + (Int.tmod (wrap64 (Int.tdiv (mn (wrap64 (a0_0 + 324000)) 647999) 3600)) 10))))))) 
  · refine RT.goto rfl ?_
    refine RS.weak [(1, .int .i64 a1), (5, .int .i64 (wrap64 (a0_1 + 648000))), (6, .int .i64 (mn (wrap64 (a0_0 + 324000)) 647999)), (7, .fn 17 []), (8, .str (r1 ++ r2))] [] ⟨Le.eq (by first | rfl | simp), Le.eq (by first | rfl | simp), Le.eq (by first | rfl | simp), Le.eq (by first | rfl | simp), Le.eq (by first | rfl | simp), trivial⟩ trivial rfl (dom0 rfl) ?_
    exact (pileref1_LocatorFor.loops k).2 a0_0 a0_1 a1 (r1 ++ r2) 
/-! ### pilemake_Stream_Changed: function 56 -/
def pilemake_Stream_Changed.k0 : List DK := [⟨[41], [], [6], []⟩, ⟨[36, 40], [], [41], []⟩, ⟨[37, 39], [], [40], []⟩, ⟨[38], [], [39], []⟩, ⟨[7], [], [38], []⟩, ⟨[1], [], [37], []⟩, ⟨[32, 35], [], [36], []⟩, ⟨[34], [], [35], []⟩, ⟨[33], [], [34], []⟩, ⟨[8], [], [33], []⟩, ⟨[30, 31], [], [32], []⟩, ⟨[7], [], [31], []⟩, ⟨[1], [], [30], []⟩]
def pilemake_Stream_Changed.k1 : List Nat := [0, 0, 3, 0, 8, 24, 63, 0, 0, 256, 896, 2047, 4095]
def pilemake_Stream_Changed.k2 : List DK := [⟨[54], [], [6], []⟩, ⟨[50, 53], [], [54], []⟩, ⟨[51, 52], [], [53], []⟩, ⟨[7], [], [52], []⟩, ⟨[1], [], [51], []⟩, ⟨[46, 49], [], [50], []⟩, ⟨[48], [], [49], []⟩, ⟨[47], [], [48], []⟩, ⟨[8], [], [47], []⟩, ⟨[44, 45], [], [46], []⟩, ⟨[7], [], [45], []⟩, ⟨[1], [], [44], []⟩]
def pilemake_Stream_Changed.k3 : List Nat := [0, 0, 3, 0, 8, 24, 63, 0, 0, 384, 1023, 2047]
def pilemake_Stream_Changed.k4 : List DK := [⟨[62], [], [6], []⟩, ⟨[57, 61], [], [62], []⟩, ⟨[58, 60], [], [61], []⟩, ⟨[59], [], [60], []⟩, ⟨[7], [], [59], []⟩, ⟨[1], [], [58], []⟩, ⟨[55, 56], [], [57], []⟩, ⟨[7], [], [56], []⟩, ⟨[1], [], [55], []⟩]
def pilemake_Stream_Changed.k5 : List Nat := [0, 0, 3, 0, 0, 16, 56, 127, 255]
def pilemake_Stream_Changed.f (k : Nat) (p0_0 : List Int) (p0_1 : Int) (a1 : ByteArray) (a2 : ByteArray) : Option (ByteArray × (List Int) × Int) := (if a1 = (⟨#[]⟩ : ByteArray) then Option.some (a2, p0_0, p0_1) else (if a2 = (⟨#[]⟩ : ByteArray) then Option.some (a2, p0_0, p0_1) else ((pilemake_Stream_Next.f k p0_0 p0_1 (a1.size : Int)).bind fun r1 => ((pilemake_Stream_Next.f k r1.2.1 r1.2.2 (a2.size : Int)).bind fun r2 => (if 0 ≤ r2.1 then (if r2.1 < (a2.size : Int) then ((pilemake_Stream_Next.f k r2.2.1 r2.2.2 3).bind fun r5 => (if r5.1 = 0 then (if 0 ≤ r1.1 then (if r1.1 ≤ (a1.size : Int) then (if (a1.extract 0 (r1.1).toNat).size + (Utf8.encode (IntKind.i32.wrap (bt a2 r2.1))).size ≤ 9223372036854775807 then (if 0 ≤ wrap64 (r1.1 + 1) then (if wrap64 (r1.1 + 1) ≤ (a1.size : Int) then (if ((a1.extract 0 (r1.1).toNat) ++ (Utf8.encode (IntKind.i32.wrap (bt a2 r2.1)))).size + (a1.extract (wrap64 (r1.1 + 1)).toNat ((a1.size : Int)).toNat).size ≤ 9223372036854775807 then Option.some (((a1.extract 0 (r1.1).toNat) ++ (Utf8.encode (IntKind.i32.wrap (bt a2 r2.1)))) ++ (a1.extract (wrap64 (r1.1 + 1)).toNat ((a1.size : Int)).toNat), r5.2.1, r5.2.2) else Option.none) else Option.none) else Option.none) else Option.none) else Option.none) else Option.none) else (if r5.1 = 1 then (if 0 ≤ r1.1 then (if r1.1 ≤ (a1.size : Int) then (if (a1.extract 0 (r1.1).toNat).size + (Utf8.encode (IntKind.i32.wrap (bt a2 r2.1))).size ≤ 9223372036854775807 then (if 0 ≤ r1.1 then (if r1.1 ≤ (a1.size : Int) then (if ((a1.extract 0 (r1.1).toNat) ++ (Utf8.encode (IntKind.i32.wrap (bt a2 r2.1)))).size + (a1.extract (r1.1).toNat ((a1.size : Int)).toNat).size ≤ 9223372036854775807 then Option.some (((a1.extract 0 (r1.1).toNat) ++ (Utf8.encode (IntKind.i32.wrap (bt a2 r2.1)))) ++ (a1.extract (r1.1).toNat ((a1.size : Int)).toNat), r5.2.1, r5.2.2) else Option.none) else Option.none) else Option.none) else Option.none) else Option.none) else Option.none) else (if 0 ≤ r1.1 then (if r1.1 ≤ (a1.size : Int) then (if 0 ≤ wrap64 (r1.1 + 1) then (if wrap64 (r1.1 + 1) ≤ (a1.size : Int) then (if (a1.extract 0 (r1.1).toNat).size + (a1.extract (wrap64 (r1.1 + 1)).toNat ((a1.size : Int)).toNat).size ≤ 9223372036854775807 then Option.some ((a1.extract 0 (r1.1).toNat) ++ (a1.extract (wrap64 (r1.1 + 1)).toNat ((a1.size : Int)).toNat), r5.2.1, r5.2.2) else Option.none) else Option.none) else Option.none) else Option.none) else Option.none)))) else Option.none) else Option.none)))))
theorem pilemake_Stream_Changed.ok (k : Nat) (p0_0 : List Int) (p0_1 : Int) (a1 : ByteArray) (a2 : ByteArray) (r : ByteArray × (List Int) × Int) (h : pilemake_Stream_Changed.f k p0_0 p0_1 a1 a2 = some r) : Ct Tryz.prog B 56 [.ref 100000 0 0 0 2, .str a1, .str a2] (ofL [(100000, .box [sq eI p0_0, .int .i64 p0_1])]) (.str r.1) (ofL [(100000, .box [sq eI r.2.1, .int .i64 r.2.2])]) := by
  refine Ct.of (Y := (fam Tryz.f56 [] [] [(100000, .box [sq eI p0_0, .int .i64 p0_1])] (fun r : ByteArray × (List Int) × Int => .str r.1) (fun r => [(100000, .box [sq eI r.2.1, .int .i64 r.2.2])]))) Tryz.func56 rfl Tryz.call56 rfl rfl ?_ r h
  unfold pilemake_Stream_Changed.f
  refine RS.go ?_
  refine RT.br rfl (fun c26 => ?_) (fun c26 => ?_)
  · refine RT.brT rfl ?_
    refine RT.brT rfl ?_
    refine RT.brT rfl ?_
    exact RT.done rfl rfl (Le.refl _) ⟨⟨_, rfl, LeO.refl _⟩, trivial⟩ rfl (dom_of rfl)
  · refine RT.brF rfl ?_
    refine RT.brF rfl ?_
    refine RT.br rfl (fun c25 => ?_) (fun c25 => ?_)
    · exact RT.done rfl rfl (Le.refl _) ⟨⟨_, rfl, LeO.refl _⟩, trivial⟩ rfl (dom_of rfl)
    · refine RT.call rfl (fun _ h => pilemake_Stream_Next.ok k p0_0 p0_1 (a1.size : Int) _ h) (fun i => bif Nat.beq i 100000 then 100000 else i) (LeL.eq rfl) ⟨⟨_, rfl, LeO.refl _⟩, trivial⟩ (fun _ => rfl) (fun r1 => ?_)
      refine RS.go ?_
      refine RT.call rfl (fun _ h => pilemake_Stream_Next.ok k r1.2.1 r1.2.2 (a2.size : Int) _ h) (fun i => bif Nat.beq i 100000 then 100000 else i) (LeL.eq rfl) ⟨⟨_, rfl, LeO.refl _⟩, trivial⟩ (fun _ => rfl) (fun r2 => ?_)
      refine RS.go ?_
      refine RT.br rfl (fun c3 => ?_) (fun c3 => RT.none)
      refine RT.br rfl (fun c4 => ?_) (fun c4 => RT.none)
      refine RT.call rfl (fun _ h => pilemake_Stream_Next.ok k r2.2.1 r2.2.2 3 _ h) (fun i => bif Nat.beq i 100000 then 100000 else i) (LeL.eq rfl) ⟨⟨_, rfl, LeO.refl _⟩, trivial⟩ (fun _ => rfl) (fun r5 => ?_)
      refine RS.go ?_
      refine RT.br rfl (fun c24 => ?_) (fun c24 => ?_)
      · refine RT.goto rfl ?_
        refine RS.draw rfl ?_
        refine RD.br rfl (fun c6 => ?_) (fun c6 => RD.none)
        refine RD.br rfl (fun c7 => ?_) (fun c7 => RD.none)
        refine RD.br rfl (fun c8 => ?_) (fun c8 => RD.none)
        refine RD.br rfl (fun c9 => ?_) (fun c9 => RD.none)
        refine RD.br rfl (fun c10 => ?_) (fun c10 => RD.none)
        refine RD.br rfl (fun c11 => ?_) (fun c11 => RD.none)
        refine RD.fin pilemake_Stream_Changed.k0 pilemake_Stream_Changed.k1 rfl rfl (by decide +kernel) ?_
        refine RS.go ?_
        exact RT.done rfl rfl (Le.refl _) ⟨⟨_, rfl, LeO.refl _⟩, trivial⟩ rfl (dom_of rfl)
      · refine RT.br rfl (fun c23 => ?_) (fun c23 => ?_)
        · refine RT.goto rfl ?_
          refine RS.draw rfl ?_
          refine RD.br rfl (fun c12 => ?_) (fun c12 => RD.none)
          refine RD.br rfl (fun c13 => ?_) (fun c13 => RD.none)
          refine RD.br rfl (fun c14 => ?_) (fun c14 => RD.none)
          refine RD.br rfl (fun c15 => ?_) (fun c15 => RD.none)
          refine RD.br rfl (fun c16 => ?_) (fun c16 => RD.none)
          refine RD.br rfl (fun c17 => ?_) (fun c17 => RD.none)
          refine RD.fin pilemake_Stream_Changed.k2 pilemake_Stream_Changed.k3 rfl rfl (by decide +kernel) ?_
          refine RS.go ?_
          exact RT.done rfl rfl (Le.refl _) ⟨⟨_, rfl, LeO.refl _⟩, trivial⟩ rfl (dom_of rfl)
        · refine RT.goto rfl ?_
          refine RS.draw rfl ?_
          refine RD.br rfl (fun c18 => ?_) (fun c18 => RD.none)
          refine RD.br rfl (fun c19 => ?_) (fun c19 => RD.none)
          refine RD.br rfl (fun c20 => ?_) (fun c20 => RD.none)
          refine RD.br rfl (fun c21 => ?_) (fun c21 => RD.none)
          refine RD.br rfl (fun c22 => ?_) (fun c22 => RD.none)
          refine RD.fin pilemake_Stream_Changed.k4 pilemake_Stream_Changed.k5 rfl rfl (by decide +kernel) ?_
          refine RS.go ?_
          exact RT.done rfl rfl (Le.refl _) ⟨⟨_, rfl, LeO.refl _⟩, trivial⟩ rfl (dom_of rfl)
/-! ### pilemake_Stream_LocatorText: function 35 -/
def pilemake_Stream_LocatorText.j4 : Nat → ByteArray → List Int → Int → Option (ByteArray × (List Int) × Int)
  | 0, _, _, _ => Option.none
  | k + 1, x3j4, o100000_0j4, o100000_1j4 => Option.some (x3j4, o100000_0j4, o100000_1j4)
def pilemake_Stream_LocatorText.f (k : Nat) (p0_0 : List Int) (p0_1 : Int) : Option (ByteArray × (List Int) × Int) := ((pilemake_Stream_RightSite.f k p0_0 p0_1).bind fun r1 => ((pilemake_Stream_Pick.f k r1.2.2.1 r1.2.2.2 [2, 4, 4, 6, 6]).bind fun r2 => ((pileref1_LocatorFor.f k r1.1 r1.2.1 r2.1).bind fun r3 => ((pilemake_Stream_Flip.f k r2.2.1 r2.2.2 12).bind fun r4 => (if r4.1 = true then ((pilemake_Stream_Changed.f k r4.2.1 r4.2.2 r3 (⟨#[97, 114, 115, 120, 48, 57, 121]⟩ : ByteArray)).bind fun r5 => pilemake_Stream_LocatorText.j4 k r5.1 r5.2.1 r5.2.2) else pilemake_Stream_LocatorText.j4 k r3 r4.2.1 r4.2.2)))))
theorem pilemake_Stream_LocatorText.loops (p0_0 : List Int) (p0_1 : Int) : ∀ k, (∀ (x3j4 : ByteArray) (o100000_0j4 : List Int) (o100000_1j4 : Int), RS (fam Tryz.f35 [4] [] [(100000, .box [sq eI p0_0, .int .i64 p0_1])] (fun r : ByteArray × (List Int) × Int => .str r.1) (fun r => [(100000, .box [sq eI r.2.1, .int .i64 r.2.2])])) (Func.reg Tryz.f35 4) ⟨ofT [(3, .str x3j4)], ofL [(100000, .box [sq eI o100000_0j4, .int .i64 o100000_1j4])]⟩ (pilemake_Stream_LocatorText.j4 k x3j4 o100000_0j4 o100000_1j4))
  | 0 => by intro _ _ _; simp only [pilemake_Stream_LocatorText.j4]; exact RS.none
  | k + 1 => by
    have ih := pilemake_Stream_LocatorText.loops p0_0 p0_1 k
    · intro x3j4 o100000_0j4 o100000_1j4
      simp only [pilemake_Stream_LocatorText.j4]
      refine RS.region ?_
      refine RS.go ?_
      exact RT.done rfl rfl (Le.refl _) ⟨⟨_, rfl, LeO.refl _⟩, trivial⟩ rfl (dom_of rfl)
theorem pilemake_Stream_LocatorText.ok (k : Nat) (p0_0 : List Int) (p0_1 : Int) (r : ByteArray × (List Int) × Int) (h : pilemake_Stream_LocatorText.f k p0_0 p0_1 = some r) : Ct Tryz.prog B 35 [.ref 100000 0 0 0 2] (ofL [(100000, .box [sq eI p0_0, .int .i64 p0_1])]) (.str r.1) (ofL [(100000, .box [sq eI r.2.1, .int .i64 r.2.2])]) := by
  refine Ct.of (Y := (fam Tryz.f35 [4] [] [(100000, .box [sq eI p0_0, .int .i64 p0_1])] (fun r : ByteArray × (List Int) × Int => .str r.1) (fun r => [(100000, .box [sq eI r.2.1, .int .i64 r.2.2])]))) Tryz.func35 rfl Tryz.call35 rfl rfl ?_ r h
  unfold pilemake_Stream_LocatorText.f
  refine RS.go ?_
  refine RT.call rfl (fun _ h => pilemake_Stream_RightSite.ok k p0_0 p0_1 _ h) (fun i => bif Nat.beq i 100000 then 100000 else i) (LeL.eq rfl) ⟨⟨_, rfl, LeO.refl _⟩, trivial⟩ (fun _ => rfl) (fun r1 => ?_)
  refine RS.go ?_
  refine RT.goto rfl ?_
  refine RS.slot 7 (sq eI [2, 4, 4, 6, 6]) (Le.lit (E := eI) (l := [2, 4, 4, 6, 6]) (cells_of rfl)) ?_
  refine RS.go ?_
  refine RT.call rfl (fun _ h => pilemake_Stream_Pick.ok k r1.2.2.1 r1.2.2.2 [2, 4, 4, 6, 6] _ h) (fun i => bif Nat.beq i 100000 then 100000 else i) (LeL.eq rfl) ⟨⟨_, rfl, LeO.refl _⟩, trivial⟩ (fun _ => rfl) (fun r2 => ?_)
  refine RS.go ?_
  refine RT.call0 rfl (fun _ h => pileref1_LocatorFor.ok k r1.1 r1.2.1 r2.1 _ h) (LeL.eq rfl) (fun _ => rfl) (fun r3 => ?_)
  refine RS.go ?_
  refine RT.call rfl (fun _ h => pilemake_Stream_Flip.ok k r2.2.1 r2.2.2 12 _ h) (fun i => bif Nat.beq i 100000 then 100000 else i) (LeL.eq rfl) ⟨⟨_, rfl, LeO.refl _⟩, trivial⟩ (fun _ => rfl) (fun r4 => ?_)
  refine RS.go ?_
  refine RT.brB rfl (fun c6 => ?_) (fun c6 => ?_)
  · refine RT.call rfl (fun _ h => pilemake_Stream_Changed.ok k r4.2.1 r4.2.2 r3 (⟨#[97, 114, 115, 120, 48, 57, 121]⟩ : ByteArray) _ h) (fun i => bif Nat.beq i 100000 then 100000 else i) (LeL.eq rfl) ⟨⟨_, rfl, LeO.refl _⟩, trivial⟩ (fun _ => rfl) (fun r5 => ?_)
    refine RS.go ?_
    refine RT.goto rfl ?_
    refine RS.weak [(3, .str r5.1)] [(100000, .box [sq eI r5.2.1, .int .i64 r5.2.2])] ⟨Le.eq (by first | rfl | simp), trivial⟩ ⟨⟨_, rfl, LeO.refl _⟩, trivial⟩ rfl (dom_of rfl) ?_
    exact pilemake_Stream_LocatorText.loops p0_0 p0_1 k r5.1 r5.2.1 r5.2.2 
  · refine RT.goto rfl ?_
    refine RS.weak [(3, .str r3)] [(100000, .box [sq eI r4.2.1, .int .i64 r4.2.2])] ⟨Le.eq (by first | rfl | simp), trivial⟩ ⟨⟨_, rfl, LeO.refl _⟩, trivial⟩ rfl (dom_of rfl) ?_
    exact pilemake_Stream_LocatorText.loops p0_0 p0_1 k r3 r4.2.1 r4.2.2 
/-! ### pilemake_Stream_LocatorList: function 11 -/
mutual
def pilemake_Stream_LocatorList.j8 : Nat → List ByteArray → List Int → Int → Option ((List ByteArray) × (List Int) × Int)
  | 0, _, _, _ => Option.none
  | k + 1, o5j8, o100000_0j8, o100000_1j8 => Option.some (o5j8, o100000_0j8, o100000_1j8)
def pilemake_Stream_LocatorList.l0 : Nat → Int → Int → List ByteArray → List Int → Int → Option ((List ByteArray) × (List Int) × Int)
  | 0, _, _, _, _, _ => Option.none
  | k + 1, x8, x9, o5, o100000_0, o100000_1 => (if x9 < x8 then ((pilemake_Stream_RightSite.f k o100000_0 o100000_1).bind fun r2 => ((pilemake_Stream_Pick.f k r2.2.2.1 r2.2.2.2 [4, 4, 6, 6, 6, 2]).bind fun r3 => ((pileref1_LocatorFor.f k r2.1 r2.2.1 r3.1).bind fun r4 => (if o5.length + 1 ≤ 549755813888 then pilemake_Stream_LocatorList.l0 k x8 (wrap64 (x9 + 1)) (o5 ++ [r4]) r3.2.1 r3.2.2 else Option.none)))) else ((pilemake_Stream_Flip.f k o100000_0 o100000_1 20).bind fun r6 => (if r6.1 = true then ((pilemake_Stream_LocatorText.f k r6.2.1 r6.2.2).bind fun r7 => (if o5.length + 1 ≤ 549755813888 then pilemake_Stream_LocatorList.j8 k (o5 ++ [r7.1]) r7.2.1 r7.2.2 else Option.none)) else pilemake_Stream_LocatorList.j8 k o5 r6.2.1 r6.2.2)))
end
def pilemake_Stream_LocatorList.f (k : Nat) (p0_0 : List Int) (p0_1 : Int) (a1 : Int) : Option ((List ByteArray) × (List Int) × Int) := ((pilemake_Stream_Range.f k p0_0 p0_1 0 a1).bind fun r1 => pilemake_Stream_LocatorList.l0 k r1.1 0 [] r1.2.1 r1.2.2)
theorem pilemake_Stream_LocatorList.loops (p0_0 : List Int) (p0_1 : Int) : ∀ k, (∀ (o5j8 : List ByteArray) (o100000_0j8 : List Int) (o100000_1j8 : Int), RS (fam Tryz.f11 [8] [] [(100000, .box [sq eI p0_0, .int .i64 p0_1])] (fun r : (List ByteArray) × (List Int) × Int => sq eS r.1) (fun r => [(100000, .box [sq eI r.2.1, .int .i64 r.2.2])])) (Func.reg Tryz.f11 8) ⟨ofT [(5, .osl 5 eS.w 0 o5j8.length o5j8.length)], ofL [(5, bufE eS o5j8), (100000, .box [sq eI o100000_0j8, .int .i64 o100000_1j8])]⟩ (pilemake_Stream_LocatorList.j8 k o5j8 o100000_0j8 o100000_1j8)) ∧ (∀ (x8 : Int) (x9 : Int) (o5 : List ByteArray) (o100000_0 : List Int) (o100000_1 : Int), RS (fam Tryz.f11 [8] [] [(100000, .box [sq eI p0_0, .int .i64 p0_1])] (fun r : (List ByteArray) × (List Int) × Int => sq eS r.1) (fun r => [(100000, .box [sq eI r.2.1, .int .i64 r.2.2])])) (Func.head Tryz.f11 0) ⟨ofT [(0, .ref 100000 0 0 0 2), (5, .osl 5 eS.w 0 o5.length o5.length), (8, .int .i64 x8), (9, .int .i64 x9)], ofL [(5, bufE eS o5), (100000, .box [sq eI o100000_0, .int .i64 o100000_1])]⟩ (pilemake_Stream_LocatorList.l0 k x8 x9 o5 o100000_0 o100000_1))
  | 0 => ⟨by intro _ _ _; simp only [pilemake_Stream_LocatorList.j8]; exact RS.none, by intro _ _ _ _ _; simp only [pilemake_Stream_LocatorList.l0]; exact RS.none⟩
  | k + 1 => by
    have ih := pilemake_Stream_LocatorList.loops p0_0 p0_1 k
    refine ⟨?_, ?_⟩
    · intro o5j8 o100000_0j8 o100000_1j8
      simp only [pilemake_Stream_LocatorList.j8]
      refine RS.region ?_
      refine RS.go ?_
      refine RT.freeze 5 _ _ _ [(4, sq eS o5j8)] [(100000, .box [sq eI o100000_0j8, .int .i64 o100000_1j8])] rfl rfl ⟨.inr ⟨_, rfl, by first | exact Nat.le_refl _ | simp, rfl⟩, trivial⟩ ⟨⟨_, rfl, LeO.refl _⟩, trivial⟩ rfl (dom_of rfl) ?_
      exact RT.done rfl rfl (Le.refl _) ⟨⟨_, rfl, LeO.refl _⟩, trivial⟩ rfl (dom_of rfl)
    · intro x8 x9 o5 o100000_0 o100000_1
      simp only [pilemake_Stream_LocatorList.l0]
      refine RS.go ?_
      refine RT.br rfl (fun c10 => ?_) (fun c10 => ?_)
      · refine RT.call rfl (fun _ h => pilemake_Stream_RightSite.ok k o100000_0 o100000_1 _ h) (fun i => bif Nat.beq i 100000 then 100000 else i) (LeL.eq rfl) ⟨⟨_, rfl, LeO.refl _⟩, trivial⟩ (fun _ => rfl) (fun r2 => ?_)
        refine RS.go ?_
        refine RT.goto rfl ?_
        refine RS.slot 15 (sq eI [4, 4, 6, 6, 6, 2]) (Le.lit (E := eI) (l := [4, 4, 6, 6, 6, 2]) (cells_of rfl)) ?_
        refine RS.go ?_
        refine RT.call rfl (fun _ h => pilemake_Stream_Pick.ok k r2.2.2.1 r2.2.2.2 [4, 4, 6, 6, 6, 2] _ h) (fun i => bif Nat.beq i 100000 then 100000 else i) (LeL.eq rfl) ⟨⟨_, rfl, LeO.refl _⟩, trivial⟩ (fun _ => rfl) (fun r3 => ?_)
        refine RS.go ?_
        refine RT.call0 rfl (fun _ h => pileref1_LocatorFor.ok k r2.1 r2.2.1 r3.1 _ h) (LeL.eq rfl) (fun _ => rfl) (fun r4 => ?_)
        refine RS.go ?_
        refine RT.goto rfl ?_
        refine RS.slot 18 (sq eS [r4]) (Le.lit (E := eS) (l := [r4]) (cells_of rfl)) ?_
        refine RS.go ?_
        refine RT.req rfl ⟨by first | rfl | simp, by first | exact Nat.le_refl _ | simp⟩ ?_
        refine RT.not rfl (by simp <;> omega) ?_
        refine RT.br rfl (fun c5 => ?_) (fun _ => RT.none)
        refine RT.goto rfl ?_
        refine RS.obj 5 (bufE eS (o5 ++ [r4])) ⟨_, rfl, LeO.app (l := o5) (m := [r4]) fun _ _ _ _ => rfl⟩ ?_
        refine RS.slot 19 (.osl 5 eS.w 0 (o5 ++ [r4]).length (o5 ++ [r4]).length) (by first | exact Le.oslN rfl (by simp) | exact Le.trans (y := .osl 5 eS.w 0 (o5.length + 1) (o5.length + 1)) (Le.refl _) (Le.oslN rfl (by simp))) ?_
        refine RS.go ?_
        refine RT.goto rfl ?_
        refine RS.weak [(0, .ref 100000 0 0 0 2), (5, .osl 5 eS.w 0 (o5 ++ [r4]).length (o5 ++ [r4]).length), (8, .int .i64 x8), (9, .int .i64 (wrap64 (x9 + 1)))] [(5, bufE eS (o5 ++ [r4])), (100000, .box [sq eI r3.2.1, .int .i64 r3.2.2])] ⟨Le.eq (by first | rfl | simp), (by first | exact Le.oslN rfl (by first | rfl | simp) | exact Le.refl _ | exact Le.eq (by first | rfl | simp)), Le.eq (by first | rfl | simp), Le.eq (by first | rfl | simp), trivial⟩ ⟨⟨_, rfl, LeO.refl _⟩, ⟨_, rfl, LeO.refl _⟩, trivial⟩ rfl (dom_of rfl) ?_
        exact ih.2 x8 (wrap64 (x9 + 1)) (o5 ++ [r4]) r3.2.1 r3.2.2 
      · refine RT.call rfl (fun _ h => pilemake_Stream_Flip.ok k o100000_0 o100000_1 20 _ h) (fun i => bif Nat.beq i 100000 then 100000 else i) (LeL.eq rfl) ⟨⟨_, rfl, LeO.refl _⟩, trivial⟩ (fun _ => rfl) (fun r6 => ?_)
        refine RS.go ?_
        refine RT.brB rfl (fun c9 => ?_) (fun c9 => ?_)
        · refine RT.call rfl (fun _ h => pilemake_Stream_LocatorText.ok k r6.2.1 r6.2.2 _ h) (fun i => bif Nat.beq i 100000 then 100000 else i) (LeL.eq rfl) ⟨⟨_, rfl, LeO.refl _⟩, trivial⟩ (fun _ => rfl) (fun r7 => ?_)
          refine RS.go ?_
          refine RT.goto rfl ?_
          refine RS.slot 26 (sq eS [r7.1]) (Le.lit (E := eS) (l := [r7.1]) (cells_of rfl)) ?_
          refine RS.go ?_
          refine RT.req rfl ⟨by first | rfl | simp, by first | exact Nat.le_refl _ | simp⟩ ?_
          refine RT.not rfl (by simp <;> omega) ?_
          refine RT.br rfl (fun c8 => ?_) (fun _ => RT.none)
          refine RT.goto rfl ?_
          refine RS.obj 5 (bufE eS (o5 ++ [r7.1])) ⟨_, rfl, LeO.app (l := o5) (m := [r7.1]) fun _ _ _ _ => rfl⟩ ?_
          refine RS.slot 27 (.osl 5 eS.w 0 (o5 ++ [r7.1]).length (o5 ++ [r7.1]).length) (by first | exact Le.oslN rfl (by simp) | exact Le.trans (y := .osl 5 eS.w 0 (o5.length + 1) (o5.length + 1)) (Le.refl _) (Le.oslN rfl (by simp))) ?_
          refine RS.go ?_
          refine RT.goto rfl ?_
          refine RS.weak [(5, .osl 5 eS.w 0 (o5 ++ [r7.1]).length (o5 ++ [r7.1]).length)] [(5, bufE eS (o5 ++ [r7.1])), (100000, .box [sq eI r7.2.1, .int .i64 r7.2.2])] ⟨(by first | exact Le.oslN rfl (by first | rfl | simp) | exact Le.refl _ | exact Le.eq (by first | rfl | simp)), trivial⟩ ⟨⟨_, rfl, LeO.refl _⟩, ⟨_, rfl, LeO.refl _⟩, trivial⟩ rfl (dom_of rfl) ?_
          exact ih.1 (o5 ++ [r7.1]) r7.2.1 r7.2.2 
        · refine RT.goto rfl ?_
          refine RS.weak [(5, .osl 5 eS.w 0 o5.length o5.length)] [(5, bufE eS o5), (100000, .box [sq eI r6.2.1, .int .i64 r6.2.2])] ⟨(by first | exact Le.oslN rfl (by first | rfl | simp) | exact Le.refl _ | exact Le.eq (by first | rfl | simp)), trivial⟩ ⟨⟨_, rfl, LeO.refl _⟩, ⟨_, rfl, LeO.refl _⟩, trivial⟩ rfl (dom_of rfl) ?_
          exact ih.1 o5 r6.2.1 r6.2.2 
theorem pilemake_Stream_LocatorList.ok (k : Nat) (p0_0 : List Int) (p0_1 : Int) (a1 : Int) (r : (List ByteArray) × (List Int) × Int) (h : pilemake_Stream_LocatorList.f k p0_0 p0_1 a1 = some r) : Ct Tryz.prog B 11 [.ref 100000 0 0 0 2, .int .i64 a1] (ofL [(100000, .box [sq eI p0_0, .int .i64 p0_1])]) (sq eS r.1) (ofL [(100000, .box [sq eI r.2.1, .int .i64 r.2.2])]) := by
  refine Ct.of (Y := (fam Tryz.f11 [8] [] [(100000, .box [sq eI p0_0, .int .i64 p0_1])] (fun r : (List ByteArray) × (List Int) × Int => sq eS r.1) (fun r => [(100000, .box [sq eI r.2.1, .int .i64 r.2.2])]))) Tryz.func11 rfl Tryz.call11 rfl rfl ?_ r h
  unfold pilemake_Stream_LocatorList.f
  refine RS.go ?_
  refine RT.call rfl (fun _ h => pilemake_Stream_Range.ok k p0_0 p0_1 0 a1 _ h) (fun i => bif Nat.beq i 100000 then 100000 else i) (LeL.eq rfl) ⟨⟨_, rfl, LeO.refl _⟩, trivial⟩ (fun _ => rfl) (fun r1 => ?_)
  refine RS.go ?_
  refine RT.goto rfl ?_
  refine RS.ghost 5 5 eS.w (rep eS []) rfl rfl ?_
  refine RS.weak [(0, .ref 100000 0 0 0 2), (5, .osl 5 eS.w 0 ([] : List ByteArray).length ([] : List ByteArray).length), (8, .int .i64 r1.1), (9, .int .i64 0)] [(5, bufE eS ([] : List ByteArray)), (100000, .box [sq eI r1.2.1, .int .i64 r1.2.2])] ⟨Le.eq (by first | rfl | simp), (by first | exact Le.oslN rfl (by first | rfl | simp) | exact Le.refl _ | exact Le.eq (by first | rfl | simp)), Le.eq (by first | rfl | simp), Le.eq (by first | rfl | simp), trivial⟩ ⟨⟨_, rfl, LeO.refl _⟩, ⟨_, rfl, LeO.refl _⟩, trivial⟩ rfl (dom_of rfl) ?_
  exact (pilemake_Stream_LocatorList.loops p0_0 p0_1 k).2 r1.1 0 [] r1.2.1 r1.2.2 
/-! ### place_levels: function 46 -/
def place_levels.f : Option ((List (Int × Int × Int × Int))) := Option.some [(18, 97, 72000, 36000), (10, 48, 7200, 3600), (24, 97, 300, 150)]
theorem place_levels.ok (r : (List (Int × Int × Int × Int))) (h : place_levels.f  = some r) : Ct Tryz.prog B 46 [] (ofL []) (sq e_IIII r) (ofL []) := by
  refine Ct.of (Y := (fam Tryz.f46 [] [] [] (fun r : (List (Int × Int × Int × Int)) => sq e_IIII r) (fun r => []))) Tryz.func46 rfl Tryz.call46 rfl rfl ?_ r h
  unfold place_levels.f
  refine RS.go ?_
  refine RT.goto rfl ?_
  refine RS.slot 4 (sq e_IIII [(18, 97, 72000, 36000), (10, 48, 7200, 3600), (24, 97, 300, 150)]) (Le.lit (E := e_IIII) (l := [(18, 97, 72000, 36000), (10, 48, 7200, 3600), (24, 97, 300, 150)]) (cells_of rfl)) ?_
  refine RS.go ?_
  exact RT.done rfl rfl (Le.refl _) trivial rfl (dom0 rfl)
/-! ### place_IsLocator: function 21 -/
def place_IsLocator.k0 : List DK := [⟨[34, 44], [], [45], []⟩, ⟨[34], [], [44], []⟩, ⟨[34], [], [43], []⟩, ⟨[34], [], [42], []⟩, ⟨[34], [], [41], []⟩, ⟨[34], [], [40], []⟩, ⟨[34], [], [39], []⟩, ⟨[34], [], [38], []⟩, ⟨[34], [], [37], []⟩, ⟨[34], [], [36], []⟩, ⟨[34], [], [35], []⟩, ⟨[33], [], [34], []⟩, ⟨[30, 32], [], [33], []⟩, ⟨[31], [4], [32], []⟩, ⟨[4], [4], [31], []⟩, ⟨[28, 29], [], [30], []⟩, ⟨[3], [], [29], []⟩, ⟨[0], [], [28], []⟩]
def place_IsLocator.k1 : List Nat := [0, 0, 3, 0, 8, 31, 63, 127, 127, 511, 127, 1151, 4095, 8191, 127, 16511, 65535, 131071]
def place_IsLocator.k2 : List DK := [⟨[34, 44], [], [45], []⟩, ⟨[34, 41, 43], [], [44], []⟩, ⟨[34, 42], [4], [43], []⟩, ⟨[34, 4], [4], [42], []⟩, ⟨[34, 40], [], [41], []⟩, ⟨[34, 37, 39], [], [40], []⟩, ⟨[34, 38], [4], [39], []⟩, ⟨[34, 4], [4], [38], []⟩, ⟨[34, 35, 36], [], [37], []⟩, ⟨[34, 3], [], [36], []⟩, ⟨[34, 0], [], [35], []⟩, ⟨[33], [], [34], []⟩, ⟨[30, 32], [], [33], []⟩, ⟨[31], [4], [32], []⟩, ⟨[4], [4], [31], []⟩, ⟨[28, 29], [], [30], []⟩, ⟨[3], [], [29], []⟩, ⟨[0], [], [28], []⟩]
def place_IsLocator.l0 : Nat → ByteArray → Int → Option (Bool)
  | 0, _, _ => Option.none
  | k + 1, a0, x20 => (if x20 < (a0.size : Int) then (place_levels.f.bind fun r23 => (if 0 ≤ wrap64 (Int.tdiv x20 2) then (if wrap64 (Int.tdiv x20 2) < (r23.length : Int) then (if 0 ≤ x20 then (if x20 < (a0.size : Int) then (if bt a0 x20 < (rdE e_IIII r23 (wrap64 (Int.tdiv x20 2))).2.1 then Option.some false else (if 0 ≤ x20 then (if x20 < (a0.size : Int) then (if wrap64 (((bt a0 x20) - ((rdE e_IIII r23 (wrap64 (Int.tdiv x20 2))).2.1)) % 256) ≥ (rdE e_IIII r23 (wrap64 (Int.tdiv x20 2))).1 then Option.some false else place_IsLocator.l0 k a0 (wrap64 (x20 + 1))) else Option.none) else Option.none)) else Option.none) else Option.none) else Option.none) else Option.none)) else Option.some true)
def place_IsLocator.f (k : Nat) (a0 : ByteArray) : Option (Bool) := (if (a0.size : Int) = 2 then place_IsLocator.l0 k a0 0 else (if (a0.size : Int) = 4 then place_IsLocator.l0 k a0 0 else (if (a0.size : Int) = 6 then place_IsLocator.l0 k a0 0 else Option.some false)))
theorem place_IsLocator.loops : ∀ k, (∀ (a0 : ByteArray) (x20 : Int), RS (fam Tryz.f21 [] [] [] (fun r : Bool => .bool r) (fun r => [])) (Func.head Tryz.f21 0) ⟨ofT [(0, .str a0), (19, .int .i64 (a0.size : Int)), (20, .int .i64 x20)], ofL []⟩ (place_IsLocator.l0 k a0 x20))
  | 0 => by intro _ _; simp only [place_IsLocator.l0]; exact RS.none
  | k + 1 => by
    have ih := place_IsLocator.loops k
    · intro a0 x20
      simp only [place_IsLocator.l0]
      refine RS.go ?_
      refine RT.br rfl (fun c32 => ?_) (fun c32 => ?_)
      · refine RT.call0 rfl (fun _ h => place_levels.ok  _ h) (LeL.eq rfl) (fun _ => rfl) (fun r23 => ?_)
        refine RS.go ?_
        refine RT.brF rfl ?_
        refine RT.br rfl (fun c24 => ?_) (fun c24 => RT.none)
        refine RT.br rfl (fun c25 => ?_) (fun c25 => RT.none)
        refine RT.goto rfl ?_
        refine RS.draw rfl ?_
        refine RD.br rfl (fun c26 => ?_) (fun c26 => RD.none)
        refine RD.br rfl (fun c27 => ?_) (fun c27 => RD.none)
        refine RD.br rfl (fun c31 => ?_) (fun c31 => ?_)
        · refine RD.brT rfl ?_
          refine RD.brT rfl ?_
          refine RD.brT rfl ?_
          refine RD.brT rfl ?_
          refine RD.brT rfl ?_
          refine RD.brT rfl ?_
          refine RD.brT rfl ?_
          refine RD.brT rfl ?_
          refine RD.brT rfl ?_
          refine RD.brT rfl ?_
          refine RD.fin place_IsLocator.k0 place_IsLocator.k1 rfl rfl (by decide +kernel) ?_
          refine RS.go ?_
          refine RT.brT rfl ?_
          exact RT.done rfl rfl (Le.refl _) trivial rfl (dom0 rfl)
        · refine RD.brF rfl ?_
          refine RD.brF rfl ?_
          refine RD.br rfl (fun c28 => ?_) (fun c28 => RD.none)
          refine RD.br rfl (fun c29 => ?_) (fun c29 => RD.none)
          refine RD.brF rfl ?_
          refine RD.brF rfl ?_
          refine RD.brF rfl ?_
          refine RD.brF rfl ?_
          refine RD.brF rfl ?_
          refine RD.brF rfl ?_
          refine RD.brF rfl ?_
          refine RD.brF rfl ?_
          refine RD.fin place_IsLocator.k2 place_IsLocator.k1 rfl rfl (by decide +kernel) ?_
          refine RS.go ?_
          refine RT.br rfl (fun c30 => ?_) (fun c30 => ?_)
          · exact RT.done rfl rfl (Le.refl _) trivial rfl (dom0 rfl)
          · refine RT.goto rfl ?_
            refine RS.weak [(0, .str a0), (19, .int .i64 (a0.size : Int)), (20, .int .i64 (wrap64 (x20 + 1)))] [] ⟨Le.eq (by first | rfl | simp), Le.eq (by first | rfl | simp), Le.eq (by first | rfl | simp), trivial⟩ trivial rfl (dom0 rfl) ?_
            exact ih a0 (wrap64 (x20 + 1)) 
      · exact RT.done rfl rfl (Le.refl _) trivial rfl (dom0 rfl)
theorem place_IsLocator.ok (k : Nat) (a0 : ByteArray) (r : Bool) (h : place_IsLocator.f k a0 = some r) : Ct Tryz.prog B 21 [.str a0] (ofL []) (.bool r) (ofL []) := by
  refine Ct.of (Y := (fam Tryz.f21 [] [] [] (fun r : Bool => .bool r) (fun r => []))) Tryz.func21 rfl Tryz.call21 rfl rfl ?_ r h
  unfold place_IsLocator.f
  refine RS.go ?_
  refine RT.brN rfl (fun c33 => ?_) (fun c33 => ?_)
  · refine RT.brF rfl ?_
    refine RT.brF rfl ?_
    refine RT.brF rfl ?_
    refine RT.brF rfl ?_
    refine RT.brF rfl ?_
    refine RT.brF rfl ?_
    refine RT.brF rfl ?_
    refine RT.brF rfl ?_
    refine RT.goto rfl ?_
    refine RS.weak [(0, .str a0), (19, .int .i64 (a0.size : Int)), (20, .int .i64 0)] [] ⟨Le.eq (by first | rfl | simp), Le.eq (by first | rfl | simp), Le.eq (by first | rfl | simp), trivial⟩ trivial rfl (dom0 rfl) ?_
    exact place_IsLocator.loops k a0 0 
  · refine RT.brT rfl ?_
    refine RT.brT rfl ?_
    refine RT.brT rfl ?_
    refine RT.brN rfl (fun c22 => ?_) (fun c22 => ?_)
    · refine RT.brF rfl ?_
      refine RT.brF rfl ?_
      refine RT.brF rfl ?_
      refine RT.brF rfl ?_
      refine RT.goto rfl ?_
      refine RS.weak [(0, .str a0), (19, .int .i64 (a0.size : Int)), (20, .int .i64 0)] [] ⟨Le.eq (by first | rfl | simp), Le.eq (by first | rfl | simp), Le.eq (by first | rfl | simp), trivial⟩ trivial rfl (dom0 rfl) ?_
      exact place_IsLocator.loops k a0 0 
    · refine RT.brT rfl ?_
      refine RT.brT rfl ?_
      refine RT.brT rfl ?_
      refine RT.brN rfl (fun c11 => ?_) (fun c11 => ?_)
      · refine RT.goto rfl ?_
        refine RS.weak [(0, .str a0), (19, .int .i64 (a0.size : Int)), (20, .int .i64 0)] [] ⟨Le.eq (by first | rfl | simp), Le.eq (by first | rfl | simp), Le.eq (by first | rfl | simp), trivial⟩ trivial rfl (dom0 rfl) ?_
        exact place_IsLocator.loops k a0 0 
      · exact RT.done rfl rfl (Le.refl _) trivial rfl (dom0 rfl)
def maps_Keys_map_string_bool_string_bool.f (l0 : List (ByteArray × Bool)) : Option Unit := some ()
theorem maps_Keys_map_string_bool_string_bool.ok (l0 : List (ByteArray × Bool)) (r : Unit) (h : maps_Keys_map_string_bool_string_bool.f l0 = some r) : Ct Tryz.prog B 37 [.omap 100000] (ofL [(100000, mapE KL.strs (false : Bool) AV.bool l0)]) (.fn 59 [.ref 500000 1 0 0 1]) (ofL [(100000, mapE KL.strs (false : Bool) AV.bool l0), (500000, .box [.omap 100000])]) :=
  Ct.mapsKeys Tryz.call37 Tryz.maps_Keys_37

/-! ### math_bits_Len32: function 72 -/
mutual
def math_bits_Len32.j7 : Nat → Int → Int → Option (Int)
  | 0, _, _ => Option.none
  | k + 1, x0j7, x2j7 => (if 0 ≤ (x0j7) % 256 then (if (x0j7) % 256 < (str_0.size : Int) then Option.some (wrap64 (x2j7 + (wrap64 (bt str_0 ((x0j7) % 256))))) else Option.none) else Option.none)
def math_bits_Len32.j4 : Nat → Int → Int → Option (Int)
  | 0, _, _ => Option.none
  | k + 1, x0j4, x2j4 => (if x0j4 ≥ 256 then math_bits_Len32.j7 k (Int.fdiv x0j4 (2 ^ (min (Int.toNat 8) 32))) (wrap64 (x2j4 + 8)) else math_bits_Len32.j7 k x0j4 x2j4)
end
def math_bits_Len32.f (k : Nat) (a0 : Int) : Option (Int) := (if a0 ≥ 65536 then math_bits_Len32.j4 k (Int.fdiv a0 (2 ^ (min (Int.toNat 16) 32))) 16 else math_bits_Len32.j4 k a0 0)
theorem math_bits_Len32.loops : ∀ k, (∀ (x0j7 : Int) (x2j7 : Int), RS (fam Tryz.f72 [4, 7] [] [] (fun r : Int => .int .i64 r) (fun r => [])) (Func.reg Tryz.f72 7) ⟨ofT [(0, .int .u32 x0j7), (2, .int .i64 x2j7)], ofL []⟩ (math_bits_Len32.j7 k x0j7 x2j7)) ∧ (∀ (x0j4 : Int) (x2j4 : Int), RS (fam Tryz.f72 [4, 7] [] [] (fun r : Int => .int .i64 r) (fun r => [])) (Func.reg Tryz.f72 4) ⟨ofT [(0, .int .u32 x0j4), (2, .int .i64 x2j4)], ofL []⟩ (math_bits_Len32.j4 k x0j4 x2j4))
  | 0 => ⟨by intro _ _; simp only [math_bits_Len32.j7]; exact RS.none, by intro _ _; simp only [math_bits_Len32.j4]; exact RS.none⟩
  | k + 1 => by
    have ih := math_bits_Len32.loops k
    refine ⟨?_, ?_⟩
    · intro x0j7 x2j7
      simp only [math_bits_Len32.j7]
      refine RS.region ?_
      refine RS.go ?_
      refine RT.br rfl (fun c1 => ?_) (fun c1 => RT.none)
      refine RT.br rfl (fun c2 => ?_) (fun c2 => RT.none)
      exact RT.done rfl rfl (Le.refl _) trivial rfl (dom0 rfl)
    · intro x0j4 x2j4
      simp only [math_bits_Len32.j4]
      refine RS.region ?_
      refine RS.go ?_
      refine RT.br rfl (fun c3 => ?_) (fun c3 => ?_)
      · refine RT.brF rfl ?_
        refine RT.goto rfl ?_
        refine RS.weak [(0, .int .u32 (Int.fdiv x0j4 (2 ^ (min (Int.toNat 8) 32)))), (2, .int .i64 (wrap64 (x2j4 + 8)))] [] ⟨Le.eq (by first | rfl | simp), Le.eq (by first | rfl | simp), trivial⟩ trivial rfl (dom0 rfl) ?_
        exact ih.1 (Int.fdiv x0j4 (2 ^ (min (Int.toNat 8) 32))) (wrap64 (x2j4 + 8)) 
      · refine RT.goto rfl ?_
        refine RS.weak [(0, .int .u32 x0j4), (2, .int .i64 x2j4)] [] ⟨Le.eq (by first | rfl | simp), Le.eq (by first | rfl | simp), trivial⟩ trivial rfl (dom0 rfl) ?_
        exact ih.1 x0j4 x2j4 
theorem math_bits_Len32.ok (k : Nat) (a0 : Int) (r : Int) (h : math_bits_Len32.f k a0 = some r) : Ct Tryz.prog B 72 [.int .u32 a0] (ofL []) (.int .i64 r) (ofL []) := by
  refine Ct.of (Y := (fam Tryz.f72 [4, 7] [] [] (fun r : Int => .int .i64 r) (fun r => []))) Tryz.func72 rfl Tryz.call72 rfl rfl ?_ r h
  unfold math_bits_Len32.f
  refine RS.go ?_
  refine RT.br rfl (fun c4 => ?_) (fun c4 => ?_)
  · refine RT.brF rfl ?_
    refine RT.goto rfl ?_
    refine RS.weak [(0, .int .u32 (Int.fdiv a0 (2 ^ (min (Int.toNat 16) 32)))), (2, .int .i64 16)] [] ⟨Le.eq (by first | rfl | simp), Le.eq (by first | rfl | simp), trivial⟩ trivial rfl (dom0 rfl) ?_
    exact (math_bits_Len32.loops k).2 (Int.fdiv a0 (2 ^ (min (Int.toNat 16) 32))) 16 
  · refine RT.goto rfl ?_
    refine RS.weak [(0, .int .u32 a0), (2, .int .i64 0)] [] ⟨Le.eq (by first | rfl | simp), Le.eq (by first | rfl | simp), trivial⟩ trivial rfl (dom0 rfl) ?_
    exact (math_bits_Len32.loops k).2 a0 0 
/-! ### math_bits_Len64: function 73 -/
mutual
def math_bits_Len64.j10 : Nat → Int → Int → Option (Int)
  | 0, _, _ => Option.none
  | k + 1, x0j10, x2j10 => (if 0 ≤ (x0j10) % 256 then (if (x0j10) % 256 < (str_0.size : Int) then Option.some (wrap64 (x2j10 + (wrap64 (bt str_0 ((x0j10) % 256))))) else Option.none) else Option.none)
def math_bits_Len64.j7 : Nat → Int → Int → Option (Int)
  | 0, _, _ => Option.none
  | k + 1, x0j7, x2j7 => (if x0j7 ≥ 256 then math_bits_Len64.j10 k (Int.fdiv x0j7 (2 ^ (min (Int.toNat 8) 64))) (wrap64 (x2j7 + 8)) else math_bits_Len64.j10 k x0j7 x2j7)
def math_bits_Len64.j4 : Nat → Int → Int → Option (Int)
  | 0, _, _ => Option.none
  | k + 1, x0j4, x2j4 => (if x0j4 ≥ 65536 then math_bits_Len64.j7 k (Int.fdiv x0j4 (2 ^ (min (Int.toNat 16) 64))) (wrap64 (x2j4 + 16)) else math_bits_Len64.j7 k x0j4 x2j4)
end
def math_bits_Len64.f (k : Nat) (a0 : Int) : Option (Int) := (if a0 ≥ 4294967296 then math_bits_Len64.j4 k (Int.fdiv a0 (2 ^ (min (Int.toNat 32) 64))) 32 else math_bits_Len64.j4 k a0 0)
theorem math_bits_Len64.loops : ∀ k, (∀ (x0j10 : Int) (x2j10 : Int), RS (fam Tryz.f73 [4, 7, 10] [] [] (fun r : Int => .int .i64 r) (fun r => [])) (Func.reg Tryz.f73 10) ⟨ofT [(0, .int .u64 x0j10), (2, .int .i64 x2j10)], ofL []⟩ (math_bits_Len64.j10 k x0j10 x2j10)) ∧ (∀ (x0j7 : Int) (x2j7 : Int), RS (fam Tryz.f73 [4, 7, 10] [] [] (fun r : Int => .int .i64 r) (fun r => [])) (Func.reg Tryz.f73 7) ⟨ofT [(0, .int .u64 x0j7), (2, .int .i64 x2j7)], ofL []⟩ (math_bits_Len64.j7 k x0j7 x2j7)) ∧ (∀ (x0j4 : Int) (x2j4 : Int), RS (fam Tryz.f73 [4, 7, 10] [] [] (fun r : Int => .int .i64 r) (fun r => [])) (Func.reg Tryz.f73 4) ⟨ofT [(0, .int .u64 x0j4), (2, .int .i64 x2j4)], ofL []⟩ (math_bits_Len64.j4 k x0j4 x2j4))
  | 0 => ⟨by intro _ _; simp only [math_bits_Len64.j10]; exact RS.none, by intro _ _; simp only [math_bits_Len64.j7]; exact RS.none, by intro _ _; simp only [math_bits_Len64.j4]; exact RS.none⟩
  | k + 1 => by
    have ih := math_bits_Len64.loops k
    refine ⟨?_, ?_, ?_⟩
    · intro x0j10 x2j10
      simp only [math_bits_Len64.j10]
      refine RS.region ?_
      refine RS.go ?_
      refine RT.br rfl (fun c1 => ?_) (fun c1 => RT.none)
      refine RT.br rfl (fun c2 => ?_) (fun c2 => RT.none)
      exact RT.done rfl rfl (Le.refl _) trivial rfl (dom0 rfl)
    · intro x0j7 x2j7
      simp only [math_bits_Len64.j7]
      refine RS.region ?_
      refine RS.go ?_
      refine RT.br rfl (fun c3 => ?_) (fun c3 => ?_)
      · refine RT.brF rfl ?_
        refine RT.goto rfl ?_
        refine RS.weak [(0, .int .u64 (Int.fdiv x0j7 (2 ^ (min (Int.toNat 8) 64)))), (2, .int .i64 (wrap64 (x2j7 + 8)))] [] ⟨Le.eq (by first | rfl | simp), Le.eq (by first | rfl | simp), trivial⟩ trivial rfl (dom0 rfl) ?_
        exact ih.1 (Int.fdiv x0j7 (2 ^ (min (Int.toNat 8) 64))) (wrap64 (x2j7 + 8)) 
      · refine RT.goto rfl ?_
        refine RS.weak [(0, .int .u64 x0j7), (2, .int .i64 x2j7)] [] ⟨Le.eq (by first | rfl | simp), Le.eq (by first | rfl | simp), trivial⟩ trivial rfl (dom0 rfl) ?_
        exact ih.1 x0j7 x2j7 
    · intro x0j4 x2j4
      simp only [math_bits_Len64.j4]
      refine RS.region ?_
      refine RS.go ?_
      refine RT.br rfl (fun c4 => ?_) (fun c4 => ?_)
      · refine RT.brF rfl ?_
        refine RT.goto rfl ?_
        refine RS.weak [(0, .int .u64 (Int.fdiv x0j4 (2 ^ (min (Int.toNat 16) 64)))), (2, .int .i64 (wrap64 (x2j4 + 16)))] [] ⟨Le.eq (by first | rfl | simp), Le.eq (by first | rfl | simp), trivial⟩ trivial rfl (dom0 rfl) ?_
        exact ih.2.1 (Int.fdiv x0j4 (2 ^ (min (Int.toNat 16) 64))) (wrap64 (x2j4 + 16)) 
      · refine RT.goto rfl ?_
        refine RS.weak [(0, .int .u64 x0j4), (2, .int .i64 x2j4)] [] ⟨Le.eq (by first | rfl | simp), Le.eq (by first | rfl | simp), trivial⟩ trivial rfl (dom0 rfl) ?_
        exact ih.2.1 x0j4 x2j4 
theorem math_bits_Len64.ok (k : Nat) (a0 : Int) (r : Int) (h : math_bits_Len64.f k a0 = some r) : Ct Tryz.prog B 73 [.int .u64 a0] (ofL []) (.int .i64 r) (ofL []) := by
  refine Ct.of (Y := (fam Tryz.f73 [4, 7, 10] [] [] (fun r : Int => .int .i64 r) (fun r => []))) Tryz.func73 rfl Tryz.call73 rfl rfl ?_ r h
  unfold math_bits_Len64.f
  refine RS.go ?_
  refine RT.br rfl (fun c5 => ?_) (fun c5 => ?_)
  · refine RT.brF rfl ?_
    refine RT.goto rfl ?_
    refine RS.weak [(0, .int .u64 (Int.fdiv a0 (2 ^ (min (Int.toNat 32) 64)))), (2, .int .i64 32)] [] ⟨Le.eq (by first | rfl | simp), Le.eq (by first | rfl | simp), trivial⟩ trivial rfl (dom0 rfl) ?_
    exact (math_bits_Len64.loops k).2.2 (Int.fdiv a0 (2 ^ (min (Int.toNat 32) 64))) 32 
  · refine RT.goto rfl ?_
    refine RS.weak [(0, .int .u64 a0), (2, .int .i64 0)] [] ⟨Le.eq (by first | rfl | simp), Le.eq (by first | rfl | simp), trivial⟩ trivial rfl (dom0 rfl) ?_
    exact (math_bits_Len64.loops k).2.2 a0 0 
/-! ### math_bits_Len: function 48 -/
def math_bits_Len.f (k : Nat) (a0 : Int) : Option (Int) := ((math_bits_Len64.f k a0).bind fun r1 => Option.some r1)
theorem math_bits_Len.ok (k : Nat) (a0 : Int) (r : Int) (h : math_bits_Len.f k a0 = some r) : Ct Tryz.prog B 48 [.int .u64 a0] (ofL []) (.int .i64 r) (ofL []) := by
  refine Ct.of (Y := (fam Tryz.f48 [] [] [] (fun r : Int => .int .i64 r) (fun r => []))) Tryz.func48 rfl Tryz.call48 rfl rfl ?_ r h
  unfold math_bits_Len.f
  refine RS.go ?_
  refine RT.brF rfl ?_
  refine RT.call0 rfl (fun _ h => math_bits_Len64.ok k a0 _ h) (LeL.eq rfl) (fun _ => rfl) (fun r1 => ?_)
  refine RS.go ?_
  exact RT.done rfl rfl (Le.refl _) trivial rfl (dom0 rfl)
/-! ### cmp_isNaN_string: function 118 -/
def cmp_isNaN_string.f (a0 : ByteArray) : Option (Bool) := Option.some (!decide (a0 = a0))
theorem cmp_isNaN_string.ok (a0 : ByteArray) (r : Bool) (h : cmp_isNaN_string.f a0 = some r) : Ct Tryz.prog B 118 [.str a0] (ofL []) (.bool r) (ofL []) := by
  refine Ct.of (Y := (fam Tryz.f118 [] [] [] (fun r : Bool => .bool r) (fun r => []))) Tryz.func118 rfl Tryz.call118 rfl rfl ?_ r h
  unfold cmp_isNaN_string.f
  refine RS.go ?_
  exact RT.done rfl rfl (Le.refl _) trivial rfl (dom0 rfl)
/-! ### cmp_Less_string: function 104 -/
def cmp_Less_string.f (a0 : ByteArray) (a1 : ByteArray) : Option (Bool) := ((cmp_isNaN_string.f a0).bind fun r1 => (if r1 = true then ((cmp_isNaN_string.f a1).bind fun r2 => (if r2 = true then Option.some (Op.bytesLess a0.toList a1.toList) else Option.some true)) else Option.some (Op.bytesLess a0.toList a1.toList)))
theorem cmp_Less_string.ok (a0 : ByteArray) (a1 : ByteArray) (r : Bool) (h : cmp_Less_string.f a0 a1 = some r) : Ct Tryz.prog B 104 [.str a0, .str a1] (ofL []) (.bool r) (ofL []) := by
  refine Ct.of (Y := (fam Tryz.f104 [] [] [] (fun r : Bool => .bool r) (fun r => []))) Tryz.func104 rfl Tryz.call104 rfl rfl ?_ r h
  unfold cmp_Less_string.f
  refine RS.go ?_
  refine RT.call0 rfl (fun _ h => cmp_isNaN_string.ok a0 _ h) (LeL.eq rfl) (fun _ => rfl) (fun r1 => ?_)
  refine RS.go ?_
  refine RT.brB rfl (fun c4 => ?_) (fun c4 => ?_)
  · refine RT.brT rfl ?_
    refine RT.call0 rfl (fun _ h => cmp_isNaN_string.ok a1 _ h) (LeL.eq rfl) (fun _ => rfl) (fun r2 => ?_)
    refine RS.go ?_
    refine RT.brT rfl ?_
    refine RT.brT rfl ?_
    refine RT.brBN rfl (fun c3 => ?_) (fun c3 => ?_)
    · refine RT.brF rfl ?_
      refine RT.brF rfl ?_
      refine RT.brF rfl ?_
      exact RT.done rfl rfl (Le.refl _) trivial rfl (dom0 rfl)
    · refine RT.brT rfl ?_
      refine RT.brT rfl ?_
      refine RT.brT rfl ?_
      exact RT.done rfl rfl (Le.refl _) trivial rfl (dom0 rfl)
  · refine RT.brF rfl ?_
    refine RT.brF rfl ?_
    refine RT.brF rfl ?_
    refine RT.brF rfl ?_
    refine RT.brF rfl ?_
    refine RT.brF rfl ?_
    refine RT.brF rfl ?_
    exact RT.done rfl rfl (Le.refl _) trivial rfl (dom0 rfl)
def slices_Sorted_string_of_maps_Keys_map_string_bool_string_bool_1.f (l0 : List (ByteArray × Bool)) : Option (List ByteArray) := if (l0.map Prod.fst).Nodup ∧ (∀ s ∈ l0.map Prod.fst, s.size ≤ Go.maxLen) ∧ l0.length ≤ 1000000000000 then some (sortB (l0.map Prod.fst)) else none
theorem slices_Sorted_string_of_maps_Keys_map_string_bool_string_bool_1.ok (l0 : List (ByteArray × Bool)) (r : List ByteArray) (h : slices_Sorted_string_of_maps_Keys_map_string_bool_string_bool_1.f l0 = some r) : Ct Tryz.prog B 36 [.fn 59 [.ref 200000 1 0 0 1]] (ofL [(200000, .box [.omap 600000]), (600000, mapE KL.strs (false : Bool) AV.bool l0)]) (.osl 500000 eS.w 0 r.length r.length) (ofL [(200000, .box [.omap 600000]), (600000, mapE KL.strs (false : Bool) AV.bool l0), (500000, bufE eS r)]) := by
  unfold slices_Sorted_string_of_maps_Keys_map_string_bool_string_bool_1.f at h
  split at h
  case isFalse => cases h
  case isTrue c =>
  cases h
  exact Ct.sortedKeysO Tryz.call36 Tryz.underlying9 (fun Bm b nn D0 w h1 h2 h3 h4 h5 => Tryz.sorts_keys_36_37 Bm b nn D0 _ w h1 h2 h3 h4 h5) c.1 c.2.1 (by simpa using c.2.2)

/-! ### place_Squares: function 12 -/
def place_Squares.l0 : Nat → List ByteArray → Int → List (ByteArray × Bool) → Option ((List ByteArray) × Int)
  | 0, _, _, _ => Option.none
  | k + 1, l0, x13, o10 => (if x13 < (l0.length : Int) then (if 0 ≤ x13 then (if x13 < (l0.length : Int) then ((place_IsLocator.f k (rdE eS l0 x13)).bind fun r3 => (if r3 = true then (if ((rdE eS l0 x13).size : Int) < 4 then Option.some ([], 3) else (if 4 ≤ ((rdE eS l0 x13).size : Int) then place_Squares.l0 k l0 (wrap64 (x13 + 1)) (mput o10 ((rdE eS l0 x13).extract 0 4) true) else Option.none)) else Option.some ([], 3))) else Option.none) else Option.none) else ((maps_Keys_map_string_bool_string_bool.f o10).bind fun r7 => ((slices_Sorted_string_of_maps_Keys_map_string_bool_string_bool_1.f o10).bind fun r8 => Option.some (r8, 0))))
def place_Squares.f (k : Nat) (l0 : List ByteArray) : Option ((List ByteArray) × Int) := (if (l0.length : Int) > 2000 then Option.some ([], 2) else place_Squares.l0 k l0 0 ([] : List (ByteArray × Bool)))
theorem place_Squares.loops : ∀ k, (∀ (l0 : List ByteArray) (x13 : Int) (o10 : List (ByteArray × Bool)), RS (fam Tryz.f12 [] [] [] (fun r : (List ByteArray) × Int => .tup [.osl 31 eS.w 0 r.1.length r.1.length, .int .i64 r.2]) (fun r => [(31, bufE eS r.1)])) (Func.head Tryz.f12 0) ⟨ofT [(4, .omap 10), (11, sq eS l0), (12, .int .i64 (l0.length : Int)), (13, .int .i64 x13)], ofL [(10, mapE KL.strs (false : Bool) AV.bool o10)]⟩ (place_Squares.l0 k l0 x13 o10))
  | 0 => by intro _ _ _; simp only [place_Squares.l0]; exact RS.none
  | k + 1 => by
    have ih := place_Squares.loops k
    · intro l0 x13 o10
      simp only [place_Squares.l0]
      refine RS.go ?_
      refine RT.br rfl (fun c9 => ?_) (fun c9 => ?_)
      · refine RT.br rfl (fun c1 => ?_) (fun c1 => RT.none)
        refine RT.br rfl (fun c2 => ?_) (fun c2 => RT.none)
        refine RT.call0 rfl (fun _ h => place_IsLocator.ok k (rdE eS l0 x13) _ h) (LeL.eq rfl) (fun _ => rfl) (fun r3 => ?_)
        refine RS.go ?_
        refine RT.brBN rfl (fun c6 => ?_) (fun c6 => ?_)
        · refine RT.brF rfl ?_
          refine RT.brF rfl ?_
          refine RT.brF rfl ?_
          refine RT.br rfl (fun c5 => ?_) (fun c5 => ?_)
          · refine RT.ghost 2 31 eS.w (rep eS []) rfl rfl rfl ?_
            exact RT.done rfl rfl (Le.tup (LeL.cons (Le.refl _) (LeL.cons (Le.refl _) (LeL.nil)))) ⟨⟨_, rfl, LeO.refl _⟩, trivial⟩ rfl (dom0 rfl)
          · refine RT.brT rfl ?_
            refine RT.br rfl (fun c4 => ?_) (fun c4 => RT.none)
            refine RT.goto rfl ?_
            refine RS.obj 10 (mapE KL.strs (false : Bool) AV.bool (mput o10 ((rdE eS l0 x13).extract 0 4) true)) ⟨_, rfl, LeO.putS⟩ ?_
            refine RS.go ?_
            refine RT.goto rfl ?_
            refine RS.weak [(4, .omap 10), (11, sq eS l0), (12, .int .i64 (l0.length : Int)), (13, .int .i64 (wrap64 (x13 + 1)))] [(10, mapE KL.strs (false : Bool) AV.bool (mput o10 ((rdE eS l0 x13).extract 0 4) true))] ⟨Le.eq (by first | rfl | simp), Le.eq (by first | rfl | simp), Le.eq (by first | rfl | simp), Le.eq (by first | rfl | simp), trivial⟩ ⟨⟨_, rfl, LeO.refl _⟩, trivial⟩ rfl (dom0 rfl) ?_
            exact ih l0 (wrap64 (x13 + 1)) (mput o10 ((rdE eS l0 x13).extract 0 4) true) 
        · refine RT.brT rfl ?_
          refine RT.brT rfl ?_
          refine RT.brT rfl ?_
          refine RT.brT rfl ?_
          refine RT.ghost 2 31 eS.w (rep eS []) rfl rfl rfl ?_
          exact RT.done rfl rfl (Le.tup (LeL.cons (Le.refl _) (LeL.cons (Le.refl _) (LeL.nil)))) ⟨⟨_, rfl, LeO.refl _⟩, trivial⟩ rfl (dom0 rfl)
      · refine RT.call rfl (fun _ h => maps_Keys_map_string_bool_string_bool.ok o10 _ h) (fun i => bif Nat.beq i 500000 then 30 else bif Nat.beq i 100000 then 10 else i) (LeL.eq rfl) ⟨⟨_, rfl, LeO.refl _⟩, trivial⟩ (fun _ => rfl) (fun r7 => ?_)
        refine RS.go ?_
        refine RT.call rfl (fun _ h => slices_Sorted_string_of_maps_Keys_map_string_bool_string_bool_1.ok o10 _ h) (fun i => bif Nat.beq i 500000 then 31 else bif Nat.beq i 600000 then 10 else bif Nat.beq i 200000 then 30 else i) (LeL.eq rfl) ⟨⟨_, rfl, LeO.refl _⟩, ⟨⟨_, rfl, LeO.refl _⟩, trivial⟩⟩ (fun _ => rfl) (fun r8 => ?_)
        refine RS.go ?_
        exact RT.done rfl rfl (Le.tup (LeL.cons (Le.refl _) (LeL.cons (Le.refl _) (LeL.nil)))) ⟨⟨_, rfl, LeO.refl _⟩, trivial⟩ rfl (dom0 rfl)
theorem place_Squares.ok (k : Nat) (l0 : List ByteArray) (r : (List ByteArray) × Int) (h : place_Squares.f k l0 = some r) : Ct Tryz.prog B 12 [sq eS l0] (ofL []) (.tup [.osl 31 eS.w 0 r.1.length r.1.length, .int .i64 r.2]) (ofL [(31, bufE eS r.1)]) := by
  refine Ct.of (Y := (fam Tryz.f12 [] [] [] (fun r : (List ByteArray) × Int => .tup [.osl 31 eS.w 0 r.1.length r.1.length, .int .i64 r.2]) (fun r => [(31, bufE eS r.1)]))) Tryz.func12 rfl Tryz.call12 rfl rfl ?_ r h
  unfold place_Squares.f
  refine RS.go ?_
  refine RT.br rfl (fun c10 => ?_) (fun c10 => ?_)
  · refine RT.ghost 2 31 eS.w (rep eS []) rfl rfl rfl ?_
    exact RT.done rfl rfl (Le.tup (LeL.cons (Le.refl _) (LeL.cons (Le.refl _) (LeL.nil)))) ⟨⟨_, rfl, LeO.refl _⟩, trivial⟩ rfl (dom0 rfl)
  · refine RT.goto rfl ?_
    refine RS.weak [(4, .omap 10), (11, sq eS l0), (12, .int .i64 (l0.length : Int)), (13, .int .i64 0)] [(10, mapE KL.strs (false : Bool) AV.bool ([] : List (ByteArray × Bool)))] ⟨Le.eq (by first | rfl | simp), Le.eq (by first | rfl | simp), Le.eq (by first | rfl | simp), Le.eq (by first | rfl | simp), trivial⟩ ⟨⟨_, rfl, LeO.refl _⟩, trivial⟩ rfl (dom0 rfl) ?_
    exact place_Squares.loops k l0 0 ([] : List (ByteArray × Bool)) 
/-! ### place_area: function 22 -/
def place_area.k0 : List DK := [⟨[46, 45], [3], [], [3]⟩, ⟨[3], [3], [46], []⟩, ⟨[33, 44], [], [45], []⟩, ⟨[41, 43], [], [44], []⟩, ⟨[42], [4], [43], []⟩, ⟨[4], [4], [42], []⟩, ⟨[40], [], [41], []⟩, ⟨[37, 39], [], [40], []⟩, ⟨[38], [4], [39], []⟩, ⟨[4], [4], [38], []⟩, ⟨[34, 36], [], [37], []⟩, ⟨[35], [], [36], []⟩, ⟨[5], [], [35], []⟩, ⟨[0], [], [34], []⟩, ⟨[32], [3], [33], []⟩, ⟨[3], [3], [32], []⟩]
def place_area.k1 : List Nat := [0, 1, 0, 0, 8, 28, 0, 64, 252, 508, 0, 1024, 4092, 8191, 16383, 32767]
def place_area.k2 : List DK := [⟨[31, 30], [3], [], [3]⟩, ⟨[3], [3], [31], []⟩, ⟨[19, 29], [], [30], []⟩, ⟨[26, 28], [], [29], []⟩, ⟨[27], [4], [28], []⟩, ⟨[4], [4], [27], []⟩, ⟨[25], [], [26], []⟩, ⟨[22, 24], [], [25], []⟩, ⟨[23], [4], [24], []⟩, ⟨[4], [4], [23], []⟩, ⟨[20, 21], [], [22], []⟩, ⟨[5], [], [21], []⟩, ⟨[0], [], [20], []⟩, ⟨[18], [3], [19], []⟩, ⟨[3], [3], [18], []⟩]
def place_area.k3 : List Nat := [0, 1, 0, 0, 12, 0, 32, 124, 252, 0, 512, 2044, 4095, 8191, 16383]
def place_area.l0 : Nat → ByteArray → Int → Int → Int → Int → Int → Int → Int → Option (Int × Int × Int × Int)
  | 0, _, _, _, _, _, _, _, _ => Option.none
  | k + 1, a0, x5, o3_0, o3_1, o4_0, o4_1, o4_2, o4_3 => (if x5 < (a0.size : Int) then (place_levels.f.bind fun r1 => (if 0 ≤ wrap64 (Int.tdiv x5 2) then (if wrap64 (Int.tdiv x5 2) < (r1.length : Int) then (if 0 ≤ x5 then (if x5 < (a0.size : Int) then (if 0 ≤ wrap64 (x5 + 1) then (if wrap64 (x5 + 1) < (a0.size : Int) then place_area.l0 k a0 (wrap64 (x5 + 2)) (wrap64 (o3_0 + (wrap64 ((wrap64 (((bt a0 (wrap64 (x5 + 1))) - ((rdE e_IIII r1 (wrap64 (Int.tdiv x5 2))).2.1)) % 256)) * ((rdE e_IIII r1 (wrap64 (Int.tdiv x5 2))).2.2.2))))) (wrap64 (o3_1 + (wrap64 ((wrap64 (((bt a0 x5) - ((rdE e_IIII r1 (wrap64 (Int.tdiv x5 2))).2.1)) % 256)) * ((rdE e_IIII r1 (wrap64 (Int.tdiv x5 2))).2.2.1))))) ((rdE e_IIII r1 (wrap64 (Int.tdiv x5 2))).1) ((rdE e_IIII r1 (wrap64 (Int.tdiv x5 2))).2.1) ((rdE e_IIII r1 (wrap64 (Int.tdiv x5 2))).2.2.1) ((rdE e_IIII r1 (wrap64 (Int.tdiv x5 2))).2.2.2) else Option.none) else Option.none) else Option.none) else Option.none) else Option.none) else Option.none)) else Option.some (o3_0, o3_1, wrap64 (o3_0 + o4_3), wrap64 (o3_1 + o4_2)))
def place_area.f (k : Nat) (a0 : ByteArray) : Option (Int × Int × Int × Int) := place_area.l0 k a0 0 (-324000) (-648000) 0 0 0 0
theorem place_area.loops : ∀ k, (∀ (a0 : ByteArray) (x5 : Int) (o3_0 : Int) (o3_1 : Int) (o4_0 : Int) (o4_1 : Int) (o4_2 : Int) (o4_3 : Int), RS (fam Tryz.f22 [] [] [] (fun r : Int × Int × Int × Int => .agg [.int .i64 r.1, .int .i64 r.2.1, .int .i64 r.2.2.1, .int .i64 r.2.2.2]) (fun r => [])) (Func.head Tryz.f22 0) ⟨ofT [(0, .str a0), (2, .ref 2 0 0 0 4), (3, .ref 3 0 0 0 2), (4, .ref 4 0 0 0 4), (5, .int .i64 x5)], ofL [(2, .box [.int .i64 0, .int .i64 0, .int .i64 0, .int .i64 0]), (3, .box [.int .i64 o3_0, .int .i64 o3_1]), (4, .box [.int .i64 o4_0, .int .u8 o4_1, .int .i64 o4_2, .int .i64 o4_3])]⟩ (place_area.l0 k a0 x5 o3_0 o3_1 o4_0 o4_1 o4_2 o4_3))
  | 0 => by intro _ _ _ _ _ _ _ _; simp only [place_area.l0]; exact RS.none
  | k + 1 => by
    have ih := place_area.loops k
    · intro a0 x5 o3_0 o3_1 o4_0 o4_1 o4_2 o4_3
      simp only [place_area.l0]
      refine RS.go ?_
      refine RT.br rfl (fun c8 => ?_) (fun c8 => ?_)
      · refine RT.call0 rfl (fun _ h => place_levels.ok  _ h) (LeL.eq rfl) (fun _ => rfl) (fun r1 => ?_)
        refine RS.go ?_
        refine RT.brF rfl ?_
        refine RT.br rfl (fun c2 => ?_) (fun c2 => RT.none)
        refine RT.br rfl (fun c3 => ?_) (fun c3 => RT.none)
        refine RT.goto rfl ?_
        refine RS.draw rfl ?_
        refine RD.br rfl (fun c4 => ?_) (fun c4 => RD.none)
        refine RD.br rfl (fun c5 => ?_) (fun c5 => RD.none)
        refine RD.fin place_area.k2 place_area.k3 rfl rfl (by decide +kernel) ?_
        refine RS.go ?_
        refine RT.goto rfl ?_
        refine RS.draw rfl ?_
        refine RD.br rfl (fun c6 => ?_) (fun c6 => RD.none)
        refine RD.br rfl (fun c7 => ?_) (fun c7 => RD.none)
        refine RD.fin place_area.k0 place_area.k1 rfl rfl (by decide +kernel) ?_
        refine RS.go ?_
        refine RT.goto rfl ?_
        refine RS.weak [(0, .str a0), (2, .ref 2 0 0 0 4), (3, .ref 3 0 0 0 2), (4, .ref 4 0 0 0 4), (5, .int .i64 (wrap64 (x5 + 2)))] [(2, .box [.int .i64 0, .int .i64 0, .int .i64 0, .int .i64 0]), (3, .box [.int .i64 (wrap64 (o3_0 + (wrap64 ((wrap64 (((bt a0 (wrap64 (x5 + 1))) - ((rdE e_IIII r1 (wrap64 (Int.tdiv x5 2))).2.1)) % 256)) * ((rdE e_IIII r1 (wrap64 (Int.tdiv x5 2))).2.2.2))))), .int .i64 (wrap64 (o3_1 + (wrap64 ((wrap64 (((bt a0 x5) - ((rdE e_IIII r1 (wrap64 (Int.tdiv x5 2))).2.1)) % 256)) * ((rdE e_IIII r1 (wrap64 (Int.tdiv x5 2))).2.2.1)))))]), (4, .box [.int .i64 ((rdE e_IIII r1 (wrap64 (Int.tdiv x5 2))).1), .int .u8 ((rdE e_IIII r1 (wrap64 (Int.tdiv x5 2))).2.1), .int .i64 ((rdE e_IIII r1 (wrap64 (Int.tdiv x5 2))).2.2.1), .int .i64 ((rdE e_IIII r1 (wrap64 (Int.tdiv x5 2))).2.2.2)])] ⟨Le.eq (by first | rfl | simp), Le.eq (by first | rfl | simp), Le.eq (by first | rfl | simp), Le.eq (by first | rfl | simp), Le.eq (by first | rfl | simp), trivial⟩ ⟨⟨_, rfl, LeO.refl _⟩, ⟨_, rfl, LeO.refl _⟩, ⟨_, rfl, LeO.refl _⟩, trivial⟩ rfl (dom0 rfl) ?_
        exact ih a0 (wrap64 (x5 + 2)) (wrap64 (o3_0 + (wrap64 ((wrap64 (((bt a0 (wrap64 (x5 + 1))) - ((rdE e_IIII r1 (wrap64 (Int.tdiv x5 2))).2.1)) % 256)) * ((rdE e_IIII r1 (wrap64 (Int.tdiv x5 2))).2.2.2))))) (wrap64 (o3_1 + (wrap64 ((wrap64 (((bt a0 x5) - ((rdE e_IIII r1 (wrap64 (Int.tdiv x5 2))).2.1)) % 256)) * ((rdE e_IIII r1 (wrap64 (Int.tdiv x5 2))).2.2.1))))) ((rdE e_IIII r1 (wrap64 (Int.tdiv x5 2))).1) ((rdE e_IIII r1 (wrap64 (Int.tdiv x5 2))).2.1) ((rdE e_IIII r1 (wrap64 (Int.tdiv x5 2))).2.2.1) ((rdE e_IIII r1 (wrap64 (Int.tdiv x5 2))).2.2.2) 
      · exact RT.done rfl rfl (Le.refl _) trivial rfl (dom0 rfl)
theorem place_area.ok (k : Nat) (a0 : ByteArray) (r : Int × Int × Int × Int) (h : place_area.f k a0 = some r) : Ct Tryz.prog B 22 [.str a0] (ofL []) (.agg [.int .i64 r.1, .int .i64 r.2.1, .int .i64 r.2.2.1, .int .i64 r.2.2.2]) (ofL []) := by
  refine Ct.of (Y := (fam Tryz.f22 [] [] [] (fun r : Int × Int × Int × Int => .agg [.int .i64 r.1, .int .i64 r.2.1, .int .i64 r.2.2.1, .int .i64 r.2.2.2]) (fun r => []))) Tryz.func22 rfl Tryz.call22 rfl rfl ?_ r h
  unfold place_area.f
  refine RS.go ?_
  refine RT.goto rfl ?_
  refine RS.weak [(0, .str a0), (2, .ref 2 0 0 0 4), (3, .ref 3 0 0 0 2), (4, .ref 4 0 0 0 4), (5, .int .i64 0)] [(2, .box [.int .i64 0, .int .i64 0, .int .i64 0, .int .i64 0]), (3, .box [.int .i64 (-324000), .int .i64 (-648000)]), (4, .box [.int .i64 0, .int .u8 0, .int .i64 0, .int .i64 0])] ⟨Le.eq (by first | rfl | simp), Le.eq (by first | rfl | simp), Le.eq (by first | rfl | simp), Le.eq (by first | rfl | simp), Le.eq (by first | rfl | simp), trivial⟩ ⟨⟨_, rfl, LeO.refl _⟩, ⟨_, rfl, LeO.refl _⟩, ⟨_, rfl, LeO.refl _⟩, trivial⟩ rfl (dom0 rfl) ?_
  exact place_area.loops k a0 0 (-324000) (-648000) 0 0 0 0 
/-! ### place_middle: function 39 -/
def place_middle.f (k : Nat) (a0 : ByteArray) : Option (Int × Int) := ((place_area.f k a0).bind fun r1 => Option.some (wrap64 (r1.1 + (wrap64 (Int.tdiv (wrap64 (r1.2.2.1 - r1.1)) 2))), wrap64 (r1.2.1 + (wrap64 (Int.tdiv (wrap64 (r1.2.2.2 - r1.2.1)) 2)))))
theorem place_middle.ok (k : Nat) (a0 : ByteArray) (r : Int × Int) (h : place_middle.f k a0 = some r) : Ct Tryz.prog B 39 [.str a0] (ofL []) (.agg [.int .i64 r.1, .int .i64 r.2]) (ofL []) := by
  refine Ct.of (Y := (fam Tryz.f39 [] [] [] (fun r : Int × Int => .agg [.int .i64 r.1, .int .i64 r.2]) (fun r => []))) Tryz.func39 rfl Tryz.call39 rfl rfl ?_ r h
  unfold place_middle.f
  refine RS.go ?_
  refine RT.call0 rfl (fun _ h => place_area.ok k a0 _ h) (LeL.eq rfl) (fun _ => rfl) (fun r1 => ?_)
  refine RS.go ?_
  refine RT.brF rfl ?_
  refine RT.brF rfl ?_
  exact RT.done rfl rfl (Le.refl _) trivial rfl (dom0 rfl)
/-! ### place_around: function 23 -/
def place_around.f (a0 : Int) : Option (Int) := Option.some (wrap64 ((Int.tmod (wrap64 ((Int.tmod (wrap64 (a0 + 648000)) 1296000) + 1296000)) 1296000) - 648000))
theorem place_around.ok (a0 : Int) (r : Int) (h : place_around.f a0 = some r) : Ct Tryz.prog B 23 [.int .i64 a0] (ofL []) (.int .i64 r) (ofL []) := by
  refine Ct.of (Y := (fam Tryz.f23 [] [] [] (fun r : Int => .int .i64 r) (fun r => []))) Tryz.func23 rfl Tryz.call23 rfl rfl ?_ r h
  unfold place_around.f
  refine RS.go ?_
  refine RT.brF rfl ?_
  refine RT.brF rfl ?_
  exact RT.done rfl rfl (Le.refl _) trivial rfl (dom0 rfl)
/-! ### place_between: function 42 -/
def place_between.k0 : List DK := [⟨[16], [], [5], []⟩, ⟨[10], [], [4], []⟩, ⟨[15], [], [16], []⟩, ⟨[12, 14], [], [15], []⟩, ⟨[13], [2], [14], []⟩, ⟨[2], [2], [13], []⟩, ⟨[11], [3], [12], []⟩, ⟨[3], [3], [11], []⟩, ⟨[7, 9], [], [10], []⟩, ⟨[8], [2], [9], []⟩, ⟨[2], [2], [8], []⟩, ⟨[6], [3], [7], []⟩, ⟨[3], [3], [6], []⟩]
def place_between.k1 : List Nat := [0, 1, 0, 4, 15, 0, 32, 0, 128, 480, 992, 2047, 4095]
def place_between.f (a0_0 : Int) (a0_1 : Int) (a1_0 : Int) (a1_1 : Int) : Option (Int × Int) := ((place_around.f (wrap64 (a1_1 - a0_1))).bind fun r1 => Option.some (wrap64 (a1_0 - a0_0), r1))
theorem place_between.ok (a0_0 : Int) (a0_1 : Int) (a1_0 : Int) (a1_1 : Int) (r : Int × Int) (h : place_between.f a0_0 a0_1 a1_0 a1_1 = some r) : Ct Tryz.prog B 42 [.agg [.int .i64 a0_0, .int .i64 a0_1], .agg [.int .i64 a1_0, .int .i64 a1_1]] (ofL []) (.tup [.int .i64 r.1, .int .i64 r.2]) (ofL []) := by
  refine Ct.of (Y := (fam Tryz.f42 [] [] [] (fun r : Int × Int => .tup [.int .i64 r.1, .int .i64 r.2]) (fun r => []))) Tryz.func42 rfl Tryz.call42 rfl rfl ?_ r h
  unfold place_between.f
  refine RS.go ?_
  refine RT.goto rfl ?_
  refine RS.draw rfl ?_
  refine RD.call (CR := []) (CW := (fun r => [])) rfl (fun _ h => place_around.ok (wrap64 (a1_1 - a0_1)) _ h) (fun i => i) trivial (fun _ => rfl) ⟨_, _, _, _, rfl, rfl, rfl⟩ (LeL.eq rfl) trivial (fun _ => rfl) (fun r1 => ?_)
  refine RD.fin place_between.k0 place_between.k1 rfl rfl (by decide +kernel) ?_
  refine RS.go ?_
  exact RT.done rfl rfl (Le.tup (LeL.cons (Le.refl _) (LeL.cons (Le.refl _) (LeL.nil)))) trivial rfl (dom0 rfl)
/-! ### place_cosine: function 50 -/
mutual
def place_cosine.j4 : Nat → Int → Option (Int)
  | 0, _ => Option.none
  | k + 1, x3j4 => (if x3j4 > 324000 then ((place_cosine.f k (wrap64 (648000 - x3j4))).bind fun r1 => Option.some (wrap64 (0 - r1))) else (if wrap64 (419904000000 + (wrap64 (x3j4 * x3j4))) = 0 then Option.none else Option.some (wrap64 (Int.tdiv (wrap64 ((wrap64 (419904000000 - (wrap64 ((wrap64 (4 * x3j4)) * x3j4)))) * 1000000)) (wrap64 (419904000000 + (wrap64 (x3j4 * x3j4))))))))
def place_cosine.f : Nat → Int → Option (Int)
  | 0, _ => Option.none
  | k + 1, a0 => (if Int.tmod (wrap64 ((Int.tmod a0 1296000) + 1296000)) 1296000 > 648000 then place_cosine.j4 k (wrap64 (1296000 - (Int.tmod (wrap64 ((Int.tmod a0 1296000) + 1296000)) 1296000))) else place_cosine.j4 k (Int.tmod (wrap64 ((Int.tmod a0 1296000) + 1296000)) 1296000))
end
theorem place_cosine.loops : ∀ k, (∀ (x3j4 : Int), RS (fam Tryz.f50 [4] [] [] (fun r : Int => .int .i64 r) (fun r => [])) (Func.reg Tryz.f50 4) ⟨ofT [(3, .int .i64 x3j4)], ofL []⟩ (place_cosine.j4 k x3j4)) ∧ ∀ (a0 : Int) (r : Int) (h : place_cosine.f k a0 = some r), Ct Tryz.prog B 50 [.int .i64 a0] (ofL []) (.int .i64 r) (ofL [])
  | 0 => ⟨by intro _; simp only [place_cosine.j4]; exact RS.none, by intro _ r h; simp only [place_cosine.f] at h; cases h⟩
  | k + 1 => by
    have ih := place_cosine.loops k
    refine ⟨?_, ?_⟩
    · intro x3j4
      simp only [place_cosine.j4]
      refine RS.region ?_
      refine RS.go ?_
      refine RT.br rfl (fun c3 => ?_) (fun c3 => ?_)
      · refine RT.call0 rfl (fun _ h => ih.2 (wrap64 (648000 - x3j4)) _ h) (LeL.eq rfl) (fun _ => rfl) (fun r1 => ?_)
        refine RS.go ?_
        exact RT.done rfl rfl (Le.refl _) trivial rfl (dom0 rfl)
      · refine RT.br rfl (fun _ => RT.none) (fun c2 => ?_)
        exact RT.done rfl rfl (Le.refl _) trivial rfl (dom0 rfl)
    · intro a0 r h
      refine Ct.of (Y := (fam Tryz.f50 [4] [] [] (fun r : Int => .int .i64 r) (fun r => []))) Tryz.func50 rfl Tryz.call50 rfl rfl ?_ r h
      simp only [place_cosine.f]
      refine RS.go ?_
      refine RT.brF rfl ?_
      refine RT.brF rfl ?_
      refine RT.br rfl (fun c4 => ?_) (fun c4 => ?_)
      · refine RT.goto rfl ?_
        refine RS.weak [(3, .int .i64 (wrap64 (1296000 - (Int.tmod (wrap64 ((Int.tmod a0 1296000) + 1296000)) 1296000))))] [] ⟨Le.eq (by first | rfl | simp), trivial⟩ trivial rfl (dom0 rfl) ?_
        exact ih.1 (wrap64 (1296000 - (Int.tmod (wrap64 ((Int.tmod a0 1296000) + 1296000)) 1296000))) 
      · refine RT.goto rfl ?_
        refine RS.weak [(3, .int .i64 (Int.tmod (wrap64 ((Int.tmod a0 1296000) + 1296000)) 1296000))] [] ⟨Le.eq (by first | rfl | simp), trivial⟩ trivial rfl (dom0 rfl) ?_
        exact ih.1 (Int.tmod (wrap64 ((Int.tmod a0 1296000) + 1296000)) 1296000) 
theorem place_cosine.ok (k : Nat) (a0 : Int) (r : Int) (h : place_cosine.f k a0 = some r) : Ct Tryz.prog B 50 [.int .i64 a0] (ofL []) (.int .i64 r) (ofL []) := by
  exact (place_cosine.loops k).2 a0 r h
/-! ### place_inMetres: function 60 -/
def place_inMetres.f (k : Nat) (a0_0 : Int) (a0_1 : Int) (a1_0 : Int) (a1_1 : Int) : Option (Int × Int) := ((place_between.f a0_0 a0_1 a1_0 a1_1).bind fun r1 => ((place_cosine.f k (wrap64 (Int.tdiv (wrap64 (a0_0 + a1_0)) 2))).bind fun r2 => Option.some (wrap64 (Int.tdiv (wrap64 (r1.1 * 10000000)) 324000), wrap64 (Int.tdiv (wrap64 ((wrap64 (Int.tdiv (wrap64 (r1.2 * r2)) 1000000)) * 10000000)) 324000))))
theorem place_inMetres.ok (k : Nat) (a0_0 : Int) (a0_1 : Int) (a1_0 : Int) (a1_1 : Int) (r : Int × Int) (h : place_inMetres.f k a0_0 a0_1 a1_0 a1_1 = some r) : Ct Tryz.prog B 60 [.agg [.int .i64 a0_0, .int .i64 a0_1], .agg [.int .i64 a1_0, .int .i64 a1_1]] (ofL []) (.tup [.int .i64 r.1, .int .i64 r.2]) (ofL []) := by
  refine Ct.of (Y := (fam Tryz.f60 [] [] [] (fun r : Int × Int => .tup [.int .i64 r.1, .int .i64 r.2]) (fun r => []))) Tryz.func60 rfl Tryz.call60 rfl rfl ?_ r h
  unfold place_inMetres.f
  refine RS.go ?_
  refine RT.call0 rfl (fun _ h => place_between.ok a0_0 a0_1 a1_0 a1_1 _ h) (LeL.eq rfl) (fun _ => rfl) (fun r1 => ?_)
  refine RS.go ?_
  refine RT.brF rfl ?_
  refine RT.brF rfl ?_
  refine RT.call0 rfl (fun _ h => place_cosine.ok k (wrap64 (Int.tdiv (wrap64 (a0_0 + a1_0)) 2)) _ h) (LeL.eq rfl) (fun _ => rfl) (fun r2 => ?_)
  refine RS.go ?_
  refine RT.brF rfl ?_
  refine RT.brF rfl ?_
  exact RT.done rfl rfl (Le.tup (LeL.cons (Le.refl _) (LeL.cons (Le.refl _) (LeL.nil)))) trivial rfl (dom0 rfl)
/-! ### place_root: function 61 -/
def place_root.l0 : Nat → Int → Int → Int → Option (Int)
  | 0, _, _, _ => Option.none
  | k + 1, a0, x3, x4 => (if wrap64 (x3 + 1) < x4 then (if wrap64 ((wrap64 (Int.tdiv (wrap64 (x3 + x4)) 2)) * (wrap64 (Int.tdiv (wrap64 (x3 + x4)) 2))) ≤ a0 then place_root.l0 k a0 (wrap64 (Int.tdiv (wrap64 (x3 + x4)) 2)) x4 else place_root.l0 k a0 x3 (wrap64 (Int.tdiv (wrap64 (x3 + x4)) 2))) else Option.some x3)
def place_root.f (k : Nat) (a0 : Int) : Option (Int) := place_root.l0 k a0 0 2147483648
theorem place_root.loops : ∀ k, (∀ (a0 : Int) (x3 : Int) (x4 : Int), RS (fam Tryz.f61 [] [] [] (fun r : Int => .int .i64 r) (fun r => [])) (Func.head Tryz.f61 0) ⟨ofT [(0, .int .i64 a0), (3, .int .i64 x3), (4, .int .i64 x4)], ofL []⟩ (place_root.l0 k a0 x3 x4))
  | 0 => by intro _ _ _; simp only [place_root.l0]; exact RS.none
  | k + 1 => by
    have ih := place_root.loops k
    · intro a0 x3 x4
      simp only [place_root.l0]
      refine RS.go ?_
      refine RT.br rfl (fun c2 => ?_) (fun c2 => ?_)
      · refine RT.brF rfl ?_
        refine RT.br rfl (fun c1 => ?_) (fun c1 => ?_)
        · refine RT.goto rfl ?_
          refine RS.weak [(0, .int .i64 a0), (3, .int .i64 (wrap64 (Int.tdiv (wrap64 (x3 + x4)) 2))), (4, .int .i64 x4)] [] ⟨Le.eq (by first | rfl | simp), Le.eq (by first | rfl | simp), Le.eq (by first | rfl | simp), trivial⟩ trivial rfl (dom0 rfl) ?_
          exact ih a0 (wrap64 (Int.tdiv (wrap64 (x3 + x4)) 2)) x4 
        · refine RT.goto rfl ?_
          refine RS.weak [(0, .int .i64 a0), (3, .int .i64 x3), (4, .int .i64 (wrap64 (Int.tdiv (wrap64 (x3 + x4)) 2)))] [] ⟨Le.eq (by first | rfl | simp), Le.eq (by first | rfl | simp), Le.eq (by first | rfl | simp), trivial⟩ trivial rfl (dom0 rfl) ?_
          exact ih a0 x3 (wrap64 (Int.tdiv (wrap64 (x3 + x4)) 2)) 
      · exact RT.done rfl rfl (Le.refl _) trivial rfl (dom0 rfl)
theorem place_root.ok (k : Nat) (a0 : Int) (r : Int) (h : place_root.f k a0 = some r) : Ct Tryz.prog B 61 [.int .i64 a0] (ofL []) (.int .i64 r) (ofL []) := by
  refine Ct.of (Y := (fam Tryz.f61 [] [] [] (fun r : Int => .int .i64 r) (fun r => []))) Tryz.func61 rfl Tryz.call61 rfl rfl ?_ r h
  unfold place_root.f
  refine RS.go ?_
  refine RT.goto rfl ?_
  refine RS.weak [(0, .int .i64 a0), (3, .int .i64 0), (4, .int .i64 2147483648)] [] ⟨Le.eq (by first | rfl | simp), Le.eq (by first | rfl | simp), Le.eq (by first | rfl | simp), trivial⟩ trivial rfl (dom0 rfl) ?_
  exact place_root.loops k a0 0 2147483648 
/-! ### place_distance: function 38 -/
def place_distance.f (k : Nat) (a0_0 : Int) (a0_1 : Int) (a1_0 : Int) (a1_1 : Int) : Option (Int) := ((place_inMetres.f k a0_0 a0_1 a1_0 a1_1).bind fun r1 => ((place_root.f k (wrap64 ((wrap64 (r1.1 * r1.1)) + (wrap64 (r1.2 * r1.2))))).bind fun r2 => Option.some r2))
theorem place_distance.ok (k : Nat) (a0_0 : Int) (a0_1 : Int) (a1_0 : Int) (a1_1 : Int) (r : Int) (h : place_distance.f k a0_0 a0_1 a1_0 a1_1 = some r) : Ct Tryz.prog B 38 [.agg [.int .i64 a0_0, .int .i64 a0_1], .agg [.int .i64 a1_0, .int .i64 a1_1]] (ofL []) (.int .i64 r) (ofL []) := by
  refine Ct.of (Y := (fam Tryz.f38 [] [] [] (fun r : Int => .int .i64 r) (fun r => []))) Tryz.func38 rfl Tryz.call38 rfl rfl ?_ r h
  unfold place_distance.f
  refine RS.go ?_
  refine RT.call0 rfl (fun _ h => place_inMetres.ok k a0_0 a0_1 a1_0 a1_1 _ h) (LeL.eq rfl) (fun _ => rfl) (fun r1 => ?_)
  refine RS.go ?_
  refine RT.call0 rfl (fun _ h => place_root.ok k (wrap64 ((wrap64 (r1.1 * r1.1)) + (wrap64 (r1.2 * r1.2)))) _ h) (LeL.eq rfl) (fun _ => rfl) (fun r2 => ?_)
  refine RS.go ?_
  exact RT.done rfl rfl (Le.refl _) trivial rfl (dom0 rfl)
/-! ### place_Farthest: function 13 -/
mutual
def place_Farthest.j16 : Nat → ByteArray → List ByteArray → Int → Int → Int → Option (Int × Int × Int)
  | 0, _, _, _, _, _ => Option.none
  | k + 1, a0, l1, x23, x7j16, x8j16 => place_Farthest.l0 k a0 l1 x7j16 x8j16 (wrap64 (x23 + 1))
def place_Farthest.l0 : Nat → ByteArray → List ByteArray → Int → Int → Int → Option (Int × Int × Int)
  | 0, _, _, _, _, _ => Option.none
  | k + 1, a0, l1, x7, x8, x23 => (if x23 < (l1.length : Int) then (if 0 ≤ x23 then (if x23 < (l1.length : Int) then ((place_IsLocator.f k (rdE eS l1 x23)).bind fun r4 => (if r4 = true then ((place_middle.f k a0).bind fun r5 => ((place_middle.f k (rdE eS l1 x23)).bind fun r6 => ((place_distance.f k r5.1 r5.2 r6.1 r6.2).bind fun r7 => (if r7 > x8 then place_Farthest.j16 k a0 l1 x23 x23 r7 else place_Farthest.j16 k a0 l1 x23 x7 x8)))) else Option.some (0, 0, 3))) else Option.none) else Option.none) else Option.some (x7, x8, 0))
end
def place_Farthest.f (k : Nat) (a0 : ByteArray) (l1 : List ByteArray) : Option (Int × Int × Int) := ((place_IsLocator.f k a0).bind fun r1 => (if r1 = true then (if (l1.length : Int) = 0 then Option.some (0, 0, 8) else (if (l1.length : Int) > 2000 then Option.some (0, 0, 2) else place_Farthest.l0 k a0 l1 0 (-1) 0)) else Option.some (0, 0, 3)))
theorem place_Farthest.loops : ∀ k, (∀ (a0 : ByteArray) (l1 : List ByteArray) (x23 : Int) (x7j16 : Int) (x8j16 : Int), RS (fam Tryz.f13 [16] [] [] (fun r : Int × Int × Int => .tup [.int .i64 r.1, .int .i64 r.2.1, .int .i64 r.2.2]) (fun r => [])) (Func.reg Tryz.f13 16) ⟨ofT [(0, .str a0), (7, .int .i64 x7j16), (8, .int .i64 x8j16), (21, sq eS l1), (22, .int .i64 (l1.length : Int)), (23, .int .i64 x23)], ofL []⟩ (place_Farthest.j16 k a0 l1 x23 x7j16 x8j16)) ∧ (∀ (a0 : ByteArray) (l1 : List ByteArray) (x7 : Int) (x8 : Int) (x23 : Int), RS (fam Tryz.f13 [16] [] [] (fun r : Int × Int × Int => .tup [.int .i64 r.1, .int .i64 r.2.1, .int .i64 r.2.2]) (fun r => [])) (Func.head Tryz.f13 0) ⟨ofT [(0, .str a0), (7, .int .i64 x7), (8, .int .i64 x8), (21, sq eS l1), (22, .int .i64 (l1.length : Int)), (23, .int .i64 x23)], ofL []⟩ (place_Farthest.l0 k a0 l1 x7 x8 x23))
  | 0 => ⟨by intro _ _ _ _ _; simp only [place_Farthest.j16]; exact RS.none, by intro _ _ _ _ _; simp only [place_Farthest.l0]; exact RS.none⟩
  | k + 1 => by
    have ih := place_Farthest.loops k
    refine ⟨?_, ?_⟩
    · intro a0 l1 x23 x7j16 x8j16
      simp only [place_Farthest.j16]
      refine RS.region ?_
      refine RS.go ?_
      refine RT.goto rfl ?_
      refine RS.weak [(0, .str a0), (7, .int .i64 x7j16), (8, .int .i64 x8j16), (21, sq eS l1), (22, .int .i64 (l1.length : Int)), (23, .int .i64 (wrap64 (x23 + 1)))] [] ⟨Le.eq (by first | rfl | simp), Le.eq (by first | rfl | simp), Le.eq (by first | rfl | simp), Le.eq (by first | rfl | simp), Le.eq (by first | rfl | simp), Le.eq (by first | rfl | simp), trivial⟩ trivial rfl (dom0 rfl) ?_
      exact ih.2 a0 l1 x7j16 x8j16 (wrap64 (x23 + 1)) 
    · intro a0 l1 x7 x8 x23
      simp only [place_Farthest.l0]
      refine RS.go ?_
      refine RT.br rfl (fun c10 => ?_) (fun c10 => ?_)
      · refine RT.br rfl (fun c2 => ?_) (fun c2 => RT.none)
        refine RT.br rfl (fun c3 => ?_) (fun c3 => RT.none)
        refine RT.call0 rfl (fun _ h => place_IsLocator.ok k (rdE eS l1 x23) _ h) (LeL.eq rfl) (fun _ => rfl) (fun r4 => ?_)
        refine RS.go ?_
        refine RT.brBN rfl (fun c9 => ?_) (fun c9 => ?_)
        · refine RT.call0 rfl (fun _ h => place_middle.ok k a0 _ h) (LeL.eq rfl) (fun _ => rfl) (fun r5 => ?_)
          refine RS.go ?_
          refine RT.call0 rfl (fun _ h => place_middle.ok k (rdE eS l1 x23) _ h) (LeL.eq rfl) (fun _ => rfl) (fun r6 => ?_)
          refine RS.go ?_
          refine RT.call0 rfl (fun _ h => place_distance.ok k r5.1 r5.2 r6.1 r6.2 _ h) (LeL.eq rfl) (fun _ => rfl) (fun r7 => ?_)
          refine RS.go ?_
          refine RT.br rfl (fun c8 => ?_) (fun c8 => ?_)
          · refine RT.goto rfl ?_
            refine RS.weak [(0, .str a0), (7, .int .i64 x23), (8, .int .i64 r7), (21, sq eS l1), (22, .int .i64 (l1.length : Int)), (23, .int .i64 x23)] [] ⟨Le.eq (by first | rfl | simp), Le.eq (by first | rfl | simp), Le.eq (by first | rfl | simp), Le.eq (by first | rfl | simp), Le.eq (by first | rfl | simp), Le.eq (by first | rfl | simp), trivial⟩ trivial rfl (dom0 rfl) ?_
            exact ih.1 a0 l1 x23 x23 r7 
          · refine RT.goto rfl ?_
            refine RS.weak [(0, .str a0), (7, .int .i64 x7), (8, .int .i64 x8), (21, sq eS l1), (22, .int .i64 (l1.length : Int)), (23, .int .i64 x23)] [] ⟨Le.eq (by first | rfl | simp), Le.eq (by first | rfl | simp), Le.eq (by first | rfl | simp), Le.eq (by first | rfl | simp), Le.eq (by first | rfl | simp), Le.eq (by first | rfl | simp), trivial⟩ trivial rfl (dom0 rfl) ?_
            exact ih.1 a0 l1 x23 x7 x8 
        · exact RT.done rfl rfl (Le.tup (LeL.cons (Le.refl _) (LeL.cons (Le.refl _) (LeL.cons (Le.refl _) (LeL.nil))))) trivial rfl (dom0 rfl)
      · exact RT.done rfl rfl (Le.tup (LeL.cons (Le.refl _) (LeL.cons (Le.refl _) (LeL.cons (Le.refl _) (LeL.nil))))) trivial rfl (dom0 rfl)
theorem place_Farthest.ok (k : Nat) (a0 : ByteArray) (l1 : List ByteArray) (r : Int × Int × Int) (h : place_Farthest.f k a0 l1 = some r) : Ct Tryz.prog B 13 [.str a0, sq eS l1] (ofL []) (.tup [.int .i64 r.1, .int .i64 r.2.1, .int .i64 r.2.2]) (ofL []) := by
  refine Ct.of (Y := (fam Tryz.f13 [16] [] [] (fun r : Int × Int × Int => .tup [.int .i64 r.1, .int .i64 r.2.1, .int .i64 r.2.2]) (fun r => []))) Tryz.func13 rfl Tryz.call13 rfl rfl ?_ r h
  unfold place_Farthest.f
  refine RS.go ?_
  refine RT.call0 rfl (fun _ h => place_IsLocator.ok k a0 _ h) (LeL.eq rfl) (fun _ => rfl) (fun r1 => ?_)
  refine RS.go ?_
  refine RT.brBN rfl (fun c13 => ?_) (fun c13 => ?_)
  · refine RT.br rfl (fun c12 => ?_) (fun c12 => ?_)
    · exact RT.done rfl rfl (Le.tup (LeL.cons (Le.refl _) (LeL.cons (Le.refl _) (LeL.cons (Le.refl _) (LeL.nil))))) trivial rfl (dom0 rfl)
    · refine RT.br rfl (fun c11 => ?_) (fun c11 => ?_)
      · exact RT.done rfl rfl (Le.tup (LeL.cons (Le.refl _) (LeL.cons (Le.refl _) (LeL.cons (Le.refl _) (LeL.nil))))) trivial rfl (dom0 rfl)
      · refine RT.goto rfl ?_
        refine RS.weak [(0, .str a0), (7, .int .i64 0), (8, .int .i64 (-1)), (21, sq eS l1), (22, .int .i64 (l1.length : Int)), (23, .int .i64 0)] [] ⟨Le.eq (by first | rfl | simp), Le.eq (by first | rfl | simp), Le.eq (by first | rfl | simp), Le.eq (by first | rfl | simp), Le.eq (by first | rfl | simp), Le.eq (by first | rfl | simp), trivial⟩ trivial rfl (dom0 rfl) ?_
        exact (place_Farthest.loops k).2 a0 l1 0 (-1) 0 
  · exact RT.done rfl rfl (Le.tup (LeL.cons (Le.refl _) (LeL.cons (Le.refl _) (LeL.cons (Le.refl _) (LeL.nil))))) trivial rfl (dom0 rfl)
/-! ### pileref1_LocatorRight: function 62 -/
mutual
def pileref1_LocatorRight.j10 : Nat → ByteArray → Nat → Int → Option (Bool)
  | 0, _, _, _ => Option.none
  | k + 1, a0, o20, x5j10 => (if 0 ≤ (((o20 : Nat) : Int) : Int) then (if (((o20 : Nat) : Int) : Int) < (a0.size : Int) then (if bt a0 (((o20 : Nat) : Int) : Int) < x5j10 then Option.some false else (if 0 ≤ (((o20 : Nat) : Int) : Int) then (if (((o20 : Nat) : Int) : Int) < (a0.size : Int) then (if bt a0 (((o20 : Nat) : Int) : Int) > bt (⟨#[114, 114, 57, 57, 120, 120]⟩ : ByteArray) (((o20 : Nat) : Int) : Int) then Option.some false else pileref1_LocatorRight.l0 k a0 (o20 + (Utf8.decode a0 o20).2)) else Option.none) else Option.none)) else Option.none) else Option.none)
def pileref1_LocatorRight.l0 : Nat → ByteArray → Nat → Option (Bool)
  | 0, _, _ => Option.none
  | k + 1, a0, o20 => (if o20 < a0.size then (if 0 ≤ (((o20 : Nat) : Int) : Int) then (if (((o20 : Nat) : Int) : Int) < ((⟨#[114, 114, 57, 57, 120, 120]⟩ : ByteArray).size : Int) then (if bt (⟨#[114, 114, 57, 57, 120, 120]⟩ : ByteArray) (((o20 : Nat) : Int) : Int) = 57 then pileref1_LocatorRight.j10 k a0 o20 48 else pileref1_LocatorRight.j10 k a0 o20 97) else Option.none) else Option.none) else Option.some true)
end
def pileref1_LocatorRight.f (k : Nat) (a0 : ByteArray) : Option (Bool) := (if (a0.size : Int) = 2 then pileref1_LocatorRight.l0 k a0 0 else (if (a0.size : Int) = 4 then pileref1_LocatorRight.l0 k a0 0 else (if (a0.size : Int) = 6 then pileref1_LocatorRight.l0 k a0 0 else Option.some false)))
theorem pileref1_LocatorRight.loops : ∀ k, (∀ (a0 : ByteArray) (o20 : Nat) (x5j10 : Int), RS (fam Tryz.f62 [10] [] [] (fun r : Bool => .bool r) (fun r => [])) (Func.reg Tryz.f62 10) ⟨ofT [(0, .str a0), (3, .int .i64 (((o20 : Nat) : Int) : Int)), (4, .int .u8 (bt (⟨#[114, 114, 57, 57, 120, 120]⟩ : ByteArray) (((o20 : Nat) : Int) : Int))), (5, .int .u8 x5j10), (20, .ref 20 0 0 0 0)], ofL [(20, .it a0 (o20 + (Utf8.decode a0 o20).2))]⟩ (pileref1_LocatorRight.j10 k a0 o20 x5j10)) ∧ (∀ (a0 : ByteArray) (o20 : Nat), RS (fam Tryz.f62 [10] [] [] (fun r : Bool => .bool r) (fun r => [])) (Func.head Tryz.f62 0) ⟨ofT [(0, .str a0), (20, .ref 20 0 0 0 0)], ofL [(20, .it a0 o20)]⟩ (pileref1_LocatorRight.l0 k a0 o20))
  | 0 => ⟨by intro _ _ _; simp only [pileref1_LocatorRight.j10]; exact RS.none, by intro _ _; simp only [pileref1_LocatorRight.l0]; exact RS.none⟩
  | k + 1 => by
    have ih := pileref1_LocatorRight.loops k
    refine ⟨?_, ?_⟩
    · intro a0 o20 x5j10
      simp only [pileref1_LocatorRight.j10]
      refine RS.region ?_
      refine RS.go ?_
      refine RT.br rfl (fun c3 => ?_) (fun c3 => RT.none)
      refine RT.br rfl (fun c4 => ?_) (fun c4 => RT.none)
      refine RT.br rfl (fun c8 => ?_) (fun c8 => ?_)
      · refine RT.brT rfl ?_
        refine RT.brT rfl ?_
        refine RT.brT rfl ?_
        refine RT.brT rfl ?_
        refine RT.brT rfl ?_
        refine RT.brT rfl ?_
        exact RT.done rfl rfl (Le.refl _) trivial rfl (dom0 rfl)
      · refine RT.brF rfl ?_
        refine RT.brF rfl ?_
        refine RT.br rfl (fun c5 => ?_) (fun c5 => RT.none)
        refine RT.br rfl (fun c6 => ?_) (fun c6 => RT.none)
        refine RT.brF rfl ?_
        refine RT.brF rfl ?_
        refine RT.brF rfl ?_
        refine RT.br rfl (fun c7 => ?_) (fun c7 => ?_)
        · exact RT.done rfl rfl (Le.refl _) trivial rfl (dom0 rfl)
        · refine RT.goto rfl ?_
          refine RS.weak [(0, .str a0), (20, .ref 20 0 0 0 0)] [(20, .it a0 (o20 + (Utf8.decode a0 o20).2))] ⟨Le.eq (by first | rfl | simp), Le.eq (by first | rfl | simp), trivial⟩ ⟨⟨_, rfl, LeO.refl _⟩, trivial⟩ rfl (dom0 rfl) ?_
          exact ih.2 a0 (o20 + (Utf8.decode a0 o20).2) 
    · intro a0 o20
      simp only [pileref1_LocatorRight.l0]
      refine RS.go ?_
      refine RT.br rfl (fun c20 => ?_) (fun c20 => ?_)
      · refine RT.brT rfl ?_
        refine RT.br rfl (fun c17 => ?_) (fun c17 => RT.none)
        refine RT.br rfl (fun c18 => ?_) (fun c18 => RT.none)
        refine RT.br rfl (fun c19 => ?_) (fun c19 => ?_)
        · refine RT.goto rfl ?_
          refine RS.weak [(0, .str a0), (3, .int .i64 (((o20 : Nat) : Int) : Int)), (4, .int .u8 (bt (⟨#[114, 114, 57, 57, 120, 120]⟩ : ByteArray) (((o20 : Nat) : Int) : Int))), (5, .int .u8 48), (20, .ref 20 0 0 0 0)] [(20, .it a0 (o20 + (Utf8.decode a0 o20).2))] ⟨Le.eq (by first | rfl | simp), Le.eq (by first | rfl | simp), Le.eq (by first | rfl | simp), Le.eq (by first | rfl | simp), Le.eq (by first | rfl | simp), trivial⟩ ⟨⟨_, rfl, LeO.refl _⟩, trivial⟩ rfl (dom0 rfl) ?_
          exact ih.1 a0 o20 48 
        · refine RT.goto rfl ?_
          refine RS.weak [(0, .str a0), (3, .int .i64 (((o20 : Nat) : Int) : Int)), (4, .int .u8 (bt (⟨#[114, 114, 57, 57, 120, 120]⟩ : ByteArray) (((o20 : Nat) : Int) : Int))), (5, .int .u8 97), (20, .ref 20 0 0 0 0)] [(20, .it a0 (o20 + (Utf8.decode a0 o20).2))] ⟨Le.eq (by first | rfl | simp), Le.eq (by first | rfl | simp), Le.eq (by first | rfl | simp), Le.eq (by first | rfl | simp), Le.eq (by first | rfl | simp), trivial⟩ ⟨⟨_, rfl, LeO.refl _⟩, trivial⟩ rfl (dom0 rfl) ?_
          exact ih.1 a0 o20 97 
      · refine RT.brF rfl ?_
        exact RT.done rfl rfl (Le.refl _) trivial rfl (dom0 rfl)
theorem pileref1_LocatorRight.ok (k : Nat) (a0 : ByteArray) (r : Bool) (h : pileref1_LocatorRight.f k a0 = some r) : Ct Tryz.prog B 62 [.str a0] (ofL []) (.bool r) (ofL []) := by
  refine Ct.of (Y := (fam Tryz.f62 [10] [] [] (fun r : Bool => .bool r) (fun r => []))) Tryz.func62 rfl Tryz.call62 rfl rfl ?_ r h
  unfold pileref1_LocatorRight.f
  refine RS.go ?_
  refine RT.brN rfl (fun c21 => ?_) (fun c21 => ?_)
  · refine RT.brF rfl ?_
    refine RT.brF rfl ?_
    refine RT.brF rfl ?_
    refine RT.brF rfl ?_
    refine RT.brF rfl ?_
    refine RT.brF rfl ?_
    refine RT.brF rfl ?_
    refine RT.brF rfl ?_
    refine RT.goto rfl ?_
    refine RS.weak [(0, .str a0), (20, .ref 20 0 0 0 0)] [(20, .it a0 0)] ⟨Le.eq (by first | rfl | simp), Le.eq (by first | rfl | simp), trivial⟩ ⟨⟨_, rfl, LeO.refl _⟩, trivial⟩ rfl (dom0 rfl) ?_
    exact (pileref1_LocatorRight.loops k).2 a0 0 
  · refine RT.brT rfl ?_
    refine RT.brT rfl ?_
    refine RT.brT rfl ?_
    refine RT.brN rfl (fun c16 => ?_) (fun c16 => ?_)
    · refine RT.brF rfl ?_
      refine RT.brF rfl ?_
      refine RT.brF rfl ?_
      refine RT.brF rfl ?_
      refine RT.goto rfl ?_
      refine RS.weak [(0, .str a0), (20, .ref 20 0 0 0 0)] [(20, .it a0 0)] ⟨Le.eq (by first | rfl | simp), Le.eq (by first | rfl | simp), trivial⟩ ⟨⟨_, rfl, LeO.refl _⟩, trivial⟩ rfl (dom0 rfl) ?_
      exact (pileref1_LocatorRight.loops k).2 a0 0 
    · refine RT.brT rfl ?_
      refine RT.brT rfl ?_
      refine RT.brT rfl ?_
      refine RT.brN rfl (fun c11 => ?_) (fun c11 => ?_)
      · refine RT.goto rfl ?_
        refine RS.weak [(0, .str a0), (20, .ref 20 0 0 0 0)] [(20, .it a0 0)] ⟨Le.eq (by first | rfl | simp), Le.eq (by first | rfl | simp), trivial⟩ ⟨⟨_, rfl, LeO.refl _⟩, trivial⟩ rfl (dom0 rfl) ?_
        exact (pileref1_LocatorRight.loops k).2 a0 0 
      · exact RT.done rfl rfl (Le.refl _) trivial rfl (dom0 rfl)
/-! ### pileref1_LocatorFault: function 40 -/
def pileref1_LocatorFault.f (k : Nat) (a0 : ByteArray) : Option (Int) := ((pileref1_LocatorRight.f k a0).bind fun r1 => (if r1 = true then Option.some 0 else Option.some 3))
theorem pileref1_LocatorFault.ok (k : Nat) (a0 : ByteArray) (r : Int) (h : pileref1_LocatorFault.f k a0 = some r) : Ct Tryz.prog B 40 [.str a0] (ofL []) (.int .i64 r) (ofL []) := by
  refine Ct.of (Y := (fam Tryz.f40 [] [] [] (fun r : Int => .int .i64 r) (fun r => []))) Tryz.func40 rfl Tryz.call40 rfl rfl ?_ r h
  unfold pileref1_LocatorFault.f
  refine RS.go ?_
  refine RT.call0 rfl (fun _ h => pileref1_LocatorRight.ok k a0 _ h) (LeL.eq rfl) (fun _ => rfl) (fun r1 => ?_)
  refine RS.go ?_
  refine RT.brBN rfl (fun c2 => ?_) (fun c2 => ?_)
  · exact RT.done rfl rfl (Le.refl _) trivial rfl (dom0 rfl)
  · exact RT.done rfl rfl (Le.refl _) trivial rfl (dom0 rfl)
/-! ### pileref1_LocatorsFault: function 14 -/
def pileref1_LocatorsFault.l0 : Nat → List ByteArray → Int → Option (Int)
  | 0, _, _ => Option.none
  | k + 1, l0, x11 => (if x11 < (l0.length : Int) then (if 0 ≤ x11 then (if x11 < (l0.length : Int) then ((pileref1_LocatorFault.f k (rdE eS l0 x11)).bind fun r3 => (if r3 = 0 then pileref1_LocatorsFault.l0 k l0 (wrap64 (x11 + 1)) else Option.some r3)) else Option.none) else Option.none) else Option.some 0)
def pileref1_LocatorsFault.f (k : Nat) (l0 : List ByteArray) : Option (Int) := (if (l0.length : Int) > 2000 then Option.some 2 else pileref1_LocatorsFault.l0 k l0 0)
theorem pileref1_LocatorsFault.loops : ∀ k, (∀ (l0 : List ByteArray) (x11 : Int), RS (fam Tryz.f14 [] [] [] (fun r : Int => .int .i64 r) (fun r => [])) (Func.head Tryz.f14 0) ⟨ofT [(9, sq eS l0), (10, .int .i64 (l0.length : Int)), (11, .int .i64 x11)], ofL []⟩ (pileref1_LocatorsFault.l0 k l0 x11))
  | 0 => by intro _ _; simp only [pileref1_LocatorsFault.l0]; exact RS.none
  | k + 1 => by
    have ih := pileref1_LocatorsFault.loops k
    · intro l0 x11
      simp only [pileref1_LocatorsFault.l0]
      refine RS.go ?_
      refine RT.br rfl (fun c5 => ?_) (fun c5 => ?_)
      · refine RT.br rfl (fun c1 => ?_) (fun c1 => RT.none)
        refine RT.br rfl (fun c2 => ?_) (fun c2 => RT.none)
        refine RT.call0 rfl (fun _ h => pileref1_LocatorFault.ok k (rdE eS l0 x11) _ h) (LeL.eq rfl) (fun _ => rfl) (fun r3 => ?_)
        refine RS.go ?_
        refine RT.brN rfl (fun c4 => ?_) (fun c4 => ?_)
        · refine RT.goto rfl ?_
          refine RS.weak [(9, sq eS l0), (10, .int .i64 (l0.length : Int)), (11, .int .i64 (wrap64 (x11 + 1)))] [] ⟨Le.eq (by first | rfl | simp), Le.eq (by first | rfl | simp), Le.eq (by first | rfl | simp), trivial⟩ trivial rfl (dom0 rfl) ?_
          exact ih l0 (wrap64 (x11 + 1)) 
        · exact RT.done rfl rfl (Le.refl _) trivial rfl (dom0 rfl)
      · exact RT.done rfl rfl (Le.refl _) trivial rfl (dom0 rfl)
theorem pileref1_LocatorsFault.ok (k : Nat) (l0 : List ByteArray) (r : Int) (h : pileref1_LocatorsFault.f k l0 = some r) : Ct Tryz.prog B 14 [sq eS l0] (ofL []) (.int .i64 r) (ofL []) := by
  refine Ct.of (Y := (fam Tryz.f14 [] [] [] (fun r : Int => .int .i64 r) (fun r => []))) Tryz.func14 rfl Tryz.call14 rfl rfl ?_ r h
  unfold pileref1_LocatorsFault.f
  refine RS.go ?_
  refine RT.br rfl (fun c6 => ?_) (fun c6 => ?_)
  · exact RT.done rfl rfl (Le.refl _) trivial rfl (dom0 rfl)
  · refine RT.goto rfl ?_
    refine RS.weak [(9, sq eS l0), (10, .int .i64 (l0.length : Int)), (11, .int .i64 0)] [] ⟨Le.eq (by first | rfl | simp), Le.eq (by first | rfl | simp), Le.eq (by first | rfl | simp), trivial⟩ trivial rfl (dom0 rfl) ?_
    exact pileref1_LocatorsFault.loops k l0 0 
/-! ### kit_Outside: function 24 -/
def kit_Outside.f (a0 : Int) (a1 : Int) (a2 : Int) : Option (Bool) := (if a0 < a1 then Option.some true else Option.some (decide (a0 > a2)))
theorem kit_Outside.ok (a0 : Int) (a1 : Int) (a2 : Int) (r : Bool) (h : kit_Outside.f a0 a1 a2 = some r) : Ct Tryz.prog B 24 [.int .i64 a0, .int .i64 a1, .int .i64 a2] (ofL []) (.bool r) (ofL []) := by
  refine Ct.of (Y := (fam Tryz.f24 [] [] [] (fun r : Bool => .bool r) (fun r => []))) Tryz.func24 rfl Tryz.call24 rfl rfl ?_ r h
  unfold kit_Outside.f
  refine RS.go ?_
  refine RT.br rfl (fun c1 => ?_) (fun c1 => ?_)
  · refine RT.brT rfl ?_
    refine RT.brT rfl ?_
    refine RT.brT rfl ?_
    exact RT.done rfl rfl (Le.refl _) trivial rfl (dom0 rfl)
  · refine RT.brF rfl ?_
    refine RT.brF rfl ?_
    refine RT.brF rfl ?_
    exact RT.done rfl rfl (Le.refl _) trivial rfl (dom0 rfl)
/-! ### place_CheckSite: function 63 -/
def place_CheckSite.f (a0_0 : Int) (a0_1 : Int) : Option (Int) := ((kit_Outside.f a0_0 (-324000) 324000).bind fun r1 => (if r1 = true then Option.some 1 else ((kit_Outside.f a0_1 (-648000) 647999).bind fun r2 => (if r2 = true then Option.some 1 else Option.some 0))))
theorem place_CheckSite.ok (a0_0 : Int) (a0_1 : Int) (r : Int) (h : place_CheckSite.f a0_0 a0_1 = some r) : Ct Tryz.prog B 63 [.agg [.int .i64 a0_0, .int .i64 a0_1]] (ofL []) (.int .i64 r) (ofL []) := by
  refine Ct.of (Y := (fam Tryz.f63 [] [] [] (fun r : Int => .int .i64 r) (fun r => []))) Tryz.func63 rfl Tryz.call63 rfl rfl ?_ r h
  unfold place_CheckSite.f
  refine RS.go ?_
  refine RT.call0 rfl (fun _ h => kit_Outside.ok a0_0 (-324000) 324000 _ h) (LeL.eq rfl) (fun _ => rfl) (fun r1 => ?_)
  refine RS.go ?_
  refine RT.brB rfl (fun c4 => ?_) (fun c4 => ?_)
  · refine RT.brT rfl ?_
    refine RT.brT rfl ?_
    refine RT.brT rfl ?_
    refine RT.brT rfl ?_
    exact RT.done rfl rfl (Le.refl _) trivial rfl (dom0 rfl)
  · refine RT.brF rfl ?_
    refine RT.brF rfl ?_
    refine RT.call0 rfl (fun _ h => kit_Outside.ok a0_1 (-648000) 647999 _ h) (LeL.eq rfl) (fun _ => rfl) (fun r2 => ?_)
    refine RS.go ?_
    refine RT.brF rfl ?_
    refine RT.brB rfl (fun c3 => ?_) (fun c3 => ?_)
    · exact RT.done rfl rfl (Le.refl _) trivial rfl (dom0 rfl)
    · exact RT.done rfl rfl (Le.refl _) trivial rfl (dom0 rfl)
/-! ### place_checkBoth: function 41 -/
def place_checkBoth.f (a0_0 : Int) (a0_1 : Int) (a1_0 : Int) (a1_1 : Int) : Option (Int) := ((place_CheckSite.f a0_0 a0_1).bind fun r1 => (if r1 = 0 then ((place_CheckSite.f a1_0 a1_1).bind fun r2 => Option.some r2) else Option.some r1))
theorem place_checkBoth.ok (a0_0 : Int) (a0_1 : Int) (a1_0 : Int) (a1_1 : Int) (r : Int) (h : place_checkBoth.f a0_0 a0_1 a1_0 a1_1 = some r) : Ct Tryz.prog B 41 [.agg [.int .i64 a0_0, .int .i64 a0_1], .agg [.int .i64 a1_0, .int .i64 a1_1]] (ofL []) (.int .i64 r) (ofL []) := by
  refine Ct.of (Y := (fam Tryz.f41 [] [] [] (fun r : Int => .int .i64 r) (fun r => []))) Tryz.func41 rfl Tryz.call41 rfl rfl ?_ r h
  unfold place_checkBoth.f
  refine RS.go ?_
  refine RT.call0 rfl (fun _ h => place_CheckSite.ok a0_0 a0_1 _ h) (LeL.eq rfl) (fun _ => rfl) (fun r1 => ?_)
  refine RS.go ?_
  refine RT.brN rfl (fun c3 => ?_) (fun c3 => ?_)
  · refine RT.call0 rfl (fun _ h => place_CheckSite.ok a1_0 a1_1 _ h) (LeL.eq rfl) (fun _ => rfl) (fun r2 => ?_)
    refine RS.go ?_
    exact RT.done rfl rfl (Le.refl _) trivial rfl (dom0 rfl)
  · exact RT.done rfl rfl (Le.refl _) trivial rfl (dom0 rfl)
/-! ### place_Way: function 15 -/
def place_Way.k0 : List DK := [⟨[52], [], [11], []⟩, ⟨[32, 51], [52, 11], [52], [11]⟩, ⟨[50], [51], [51], []⟩, ⟨[40, 49], [], [50], []⟩, ⟨[48], [], [49], []⟩, ⟨[42, 47], [], [48], []⟩, ⟨[45, 46], [], [47], []⟩, ⟨[2], [], [46], []⟩, ⟨[43, 44], [], [45], []⟩, ⟨[12], [], [44], []⟩, ⟨[10], [], [43], []⟩, ⟨[41], [3], [42], []⟩, ⟨[3], [3], [41], []⟩, ⟨[34, 39], [], [40], []⟩, ⟨[37, 38], [], [39], []⟩, ⟨[2], [], [38], []⟩, ⟨[35, 36], [], [37], []⟩, ⟨[12], [], [36], []⟩, ⟨[9], [], [35], []⟩, ⟨[33], [3], [34], []⟩, ⟨[3], [3], [33], []⟩, ⟨[11], [], [32], []⟩]
def place_Way.k1 : List Nat := [0, 0, 2, 0, 0, 24, 0, 120, 254, 0, 512, 0, 0, 6144, 0, 30720, 65024, 130560, 262142, 524286, 1048575, 2097151]
def place_Way.l0 : Nat → Int → Int → Int → Int → Int → Int → List (Int × Int) → Option ((List (Int × Int)) × Int)
  | 0, _, _, _, _, _, _, _ => Option.none
  | k + 1, a0_0, a0_1, a2, x9, x10, x29, o11 => (if x29 < wrap64 (a2 + 1) then (if a2 = 0 then Option.none else (if a2 = 0 then Option.none else ((place_around.f (wrap64 (a0_1 + (wrap64 (Int.tdiv (wrap64 (x10 * x29)) a2))))).bind fun r4 => (if o11.length + 1 ≤ 549755813888 then place_Way.l0 k a0_0 a0_1 a2 x9 x10 (wrap64 (x29 + 1)) (o11 ++ [(wrap64 (a0_0 + (wrap64 (Int.tdiv (wrap64 (x9 * x29)) a2))), r4)]) else Option.none)))) else Option.some (o11, 0))
def place_Way.f (k : Nat) (a0_0 : Int) (a0_1 : Int) (a1_0 : Int) (a1_1 : Int) (a2 : Int) : Option ((List (Int × Int)) × Int) := ((place_checkBoth.f a0_0 a0_1 a1_0 a1_1).bind fun r1 => (if r1 = 0 then ((kit_Outside.f a2 1 1000).bind fun r2 => (if r2 = true then Option.some ([], 1) else ((place_between.f a0_0 a0_1 a1_0 a1_1).bind fun r3 => place_Way.l0 k a0_0 a0_1 a2 r3.1 r3.2 0 []))) else Option.some ([], r1)))
theorem place_Way.loops : ∀ k, (∀ (a0_0 : Int) (a0_1 : Int) (a2 : Int) (x9 : Int) (x10 : Int) (x29 : Int) (o11 : List (Int × Int)), RS (fam Tryz.f15 [] [] [] (fun r : (List (Int × Int)) × Int => .tup [.osl 11 e_II.w 0 r.1.length r.1.length, .int .i64 r.2]) (fun r => [(11, bufE e_II r.1)])) (Func.head Tryz.f15 0) ⟨ofT [(2, .int .i64 a2), (3, .ref 3 0 0 0 2), (9, .int .i64 x9), (10, .int .i64 x10), (11, .osl 11 e_II.w 0 o11.length o11.length), (28, .int .i64 (wrap64 (a2 + 1))), (29, .int .i64 x29)], ofL [(3, .box [.int .i64 a0_0, .int .i64 a0_1]), (11, bufE e_II o11)]⟩ (place_Way.l0 k a0_0 a0_1 a2 x9 x10 x29 o11))
  | 0 => by intro _ _ _ _ _ _ _; simp only [place_Way.l0]; exact RS.none
  | k + 1 => by
    have ih := place_Way.loops k
    · intro a0_0 a0_1 a2 x9 x10 x29 o11
      simp only [place_Way.l0]
      refine RS.go ?_
      refine RT.br rfl (fun c8 => ?_) (fun c8 => ?_)
      · refine RT.goto rfl ?_
        refine RS.draw rfl ?_
        refine RD.br rfl (fun _ => RD.none) (fun c7 => ?_)
        refine RD.br rfl (fun _ => RD.none) (fun c6 => ?_)
        refine RD.call (CR := []) (CW := (fun r => [])) rfl (fun _ h => place_around.ok (wrap64 (a0_1 + (wrap64 (Int.tdiv (wrap64 (x10 * x29)) a2)))) _ h) (fun i => i) trivial (fun _ => rfl) ⟨_, _, _, _, rfl, rfl, rfl⟩ (LeL.eq rfl) trivial (fun _ => rfl) (fun r4 => ?_)
        refine RD.req rfl ⟨by first | rfl | simp, by first | exact Nat.le_refl _ | simp⟩ ?_
        refine RD.not rfl (by simp <;> omega) ?_
        refine RD.br rfl (fun c5 => ?_) (fun _ => RD.none)
        refine RD.fin place_Way.k0 place_Way.k1 rfl rfl (by decide +kernel) ?_
        refine RS.obj 11 (bufE e_II (o11 ++ [(wrap64 (a0_0 + (wrap64 (Int.tdiv (wrap64 (x9 * x29)) a2))), r4)])) ⟨_, rfl, LeO.app (l := o11) (m := [(wrap64 (a0_0 + (wrap64 (Int.tdiv (wrap64 (x9 * x29)) a2))), r4)]) (cells_of rfl)⟩ ?_
        refine RS.slot 11 (.osl 11 e_II.w 0 (o11 ++ [(wrap64 (a0_0 + (wrap64 (Int.tdiv (wrap64 (x9 * x29)) a2))), r4)]).length (o11 ++ [(wrap64 (a0_0 + (wrap64 (Int.tdiv (wrap64 (x9 * x29)) a2))), r4)]).length) (Le.oslN rfl (by simp)) ?_
        refine RS.slot 52 (.osl 11 e_II.w 0 (o11 ++ [(wrap64 (a0_0 + (wrap64 (Int.tdiv (wrap64 (x9 * x29)) a2))), r4)]).length (o11 ++ [(wrap64 (a0_0 + (wrap64 (Int.tdiv (wrap64 (x9 * x29)) a2))), r4)]).length) (Le.oslN rfl (by simp)) ?_
        refine RS.go ?_
        refine RT.goto rfl ?_
        refine RS.weak [(2, .int .i64 a2), (3, .ref 3 0 0 0 2), (9, .int .i64 x9), (10, .int .i64 x10), (11, .osl 11 e_II.w 0 (o11 ++ [(wrap64 (a0_0 + (wrap64 (Int.tdiv (wrap64 (x9 * x29)) a2))), r4)]).length (o11 ++ [(wrap64 (a0_0 + (wrap64 (Int.tdiv (wrap64 (x9 * x29)) a2))), r4)]).length), (28, .int .i64 (wrap64 (a2 + 1))), (29, .int .i64 (wrap64 (x29 + 1)))] [(3, .box [.int .i64 a0_0, .int .i64 a0_1]), (11, bufE e_II (o11 ++ [(wrap64 (a0_0 + (wrap64 (Int.tdiv (wrap64 (x9 * x29)) a2))), r4)]))] ⟨Le.eq (by first | rfl | simp), Le.eq (by first | rfl | simp), Le.eq (by first | rfl | simp), Le.eq (by first | rfl | simp), (by first | exact Le.oslN rfl (by first | rfl | simp) | exact Le.refl _ | exact Le.eq (by first | rfl | simp)), Le.eq (by first | rfl | simp), Le.eq (by first | rfl | simp), trivial⟩ ⟨⟨_, rfl, LeO.refl _⟩, ⟨_, rfl, LeO.refl _⟩, trivial⟩ rfl (dom0 rfl) ?_
        exact ih a0_0 a0_1 a2 x9 x10 (wrap64 (x29 + 1)) (o11 ++ [(wrap64 (a0_0 + (wrap64 (Int.tdiv (wrap64 (x9 * x29)) a2))), r4)]) 
      · exact RT.done rfl rfl (Le.tup (LeL.cons (Le.refl _) (LeL.cons (Le.refl _) (LeL.nil)))) ⟨⟨_, rfl, LeO.refl _⟩, trivial⟩ rfl (dom0 rfl)
theorem place_Way.ok (k : Nat) (a0_0 : Int) (a0_1 : Int) (a1_0 : Int) (a1_1 : Int) (a2 : Int) (r : (List (Int × Int)) × Int) (h : place_Way.f k a0_0 a0_1 a1_0 a1_1 a2 = some r) : Ct Tryz.prog B 15 [.agg [.int .i64 a0_0, .int .i64 a0_1], .agg [.int .i64 a1_0, .int .i64 a1_1], .int .i64 a2] (ofL []) (.tup [.osl 11 e_II.w 0 r.1.length r.1.length, .int .i64 r.2]) (ofL [(11, bufE e_II r.1)]) := by
  refine Ct.of (Y := (fam Tryz.f15 [] [] [] (fun r : (List (Int × Int)) × Int => .tup [.osl 11 e_II.w 0 r.1.length r.1.length, .int .i64 r.2]) (fun r => [(11, bufE e_II r.1)]))) Tryz.func15 rfl Tryz.call15 rfl rfl ?_ r h
  unfold place_Way.f
  refine RS.go ?_
  refine RT.call0 rfl (fun _ h => place_checkBoth.ok a0_0 a0_1 a1_0 a1_1 _ h) (LeL.eq rfl) (fun _ => rfl) (fun r1 => ?_)
  refine RS.go ?_
  refine RT.brN rfl (fun c10 => ?_) (fun c10 => ?_)
  · refine RT.call0 rfl (fun _ h => kit_Outside.ok a2 1 1000 _ h) (LeL.eq rfl) (fun _ => rfl) (fun r2 => ?_)
    refine RS.go ?_
    refine RT.brB rfl (fun c9 => ?_) (fun c9 => ?_)
    · refine RT.ghost 6 11 e_II.w (rep e_II []) rfl rfl rfl ?_
      exact RT.done rfl rfl (Le.tup (LeL.cons (Le.refl _) (LeL.cons (Le.refl _) (LeL.nil)))) ⟨⟨_, rfl, LeO.refl _⟩, trivial⟩ rfl (dom0 rfl)
    · refine RT.call0 rfl (fun _ h => place_between.ok a0_0 a0_1 a1_0 a1_1 _ h) (LeL.eq rfl) (fun _ => rfl) (fun r3 => ?_)
      refine RS.go ?_
      refine RT.goto rfl ?_
      refine RS.ghost 11 11 e_II.w (rep e_II []) rfl rfl ?_
      refine RS.weak [(2, .int .i64 a2), (3, .ref 3 0 0 0 2), (9, .int .i64 r3.1), (10, .int .i64 r3.2), (11, .osl 11 e_II.w 0 ([] : List (Int × Int)).length ([] : List (Int × Int)).length), (28, .int .i64 (wrap64 (a2 + 1))), (29, .int .i64 0)] [(3, .box [.int .i64 a0_0, .int .i64 a0_1]), (11, bufE e_II ([] : List (Int × Int)))] ⟨Le.eq (by first | rfl | simp), Le.eq (by first | rfl | simp), Le.eq (by first | rfl | simp), Le.eq (by first | rfl | simp), (by first | exact Le.oslN rfl (by first | rfl | simp) | exact Le.refl _ | exact Le.eq (by first | rfl | simp)), Le.eq (by first | rfl | simp), Le.eq (by first | rfl | simp), trivial⟩ ⟨⟨_, rfl, LeO.refl _⟩, ⟨_, rfl, LeO.refl _⟩, trivial⟩ rfl (dom0 rfl) ?_
      exact place_Way.loops k a0_0 a0_1 a2 r3.1 r3.2 0 [] 
  · refine RT.ghost 6 11 e_II.w (rep e_II []) rfl rfl rfl ?_
    exact RT.done rfl rfl (Le.tup (LeL.cons (Le.refl _) (LeL.cons (Le.refl _) (LeL.nil)))) ⟨⟨_, rfl, LeO.refl _⟩, trivial⟩ rfl (dom0 rfl)
/-! ### slices_Equal_string_string: function 16 -/
def slices_Equal_string_string.k0 : List DK := [⟨[19, 23], [], [24], []⟩, ⟨[22], [], [23], []⟩, ⟨[20, 21], [], [22], []⟩, ⟨[5], [], [21], []⟩, ⟨[1], [], [20], []⟩, ⟨[18], [], [19], []⟩, ⟨[16, 17], [], [18], []⟩, ⟨[5], [], [17], []⟩, ⟨[0], [], [16], []⟩]
def slices_Equal_string_string.k1 : List Nat := [0, 0, 3, 7, 0, 0, 48, 112, 255]
def slices_Equal_string_string.l0 : Nat → List ByteArray → List ByteArray → Int → Option (Bool)
  | 0, _, _, _ => Option.none
  | k + 1, l0, l1, x13 => (if x13 < (l0.length : Int) then (if 0 ≤ x13 then (if x13 < (l0.length : Int) then (if 0 ≤ x13 then (if x13 < (l1.length : Int) then (if (rdE eS l0 x13) = (rdE eS l1 x13) then slices_Equal_string_string.l0 k l0 l1 (wrap64 (x13 + 1)) else Option.some false) else Option.none) else Option.none) else Option.none) else Option.none) else Option.some true)
def slices_Equal_string_string.f (k : Nat) (l0 : List ByteArray) (l1 : List ByteArray) : Option (Bool) := (if (l0.length : Int) = (l1.length : Int) then slices_Equal_string_string.l0 k l0 l1 0 else Option.some false)
theorem slices_Equal_string_string.loops : ∀ k, (∀ (l0 : List ByteArray) (l1 : List ByteArray) (x13 : Int), RS (fam Tryz.f16 [] [] [] (fun r : Bool => .bool r) (fun r => [])) (Func.head Tryz.f16 0) ⟨ofT [(0, sq eS l0), (1, sq eS l1), (12, .int .i64 (l0.length : Int)), (13, .int .i64 x13)], ofL []⟩ (slices_Equal_string_string.l0 k l0 l1 x13))
  | 0 => by intro _ _ _; simp only [slices_Equal_string_string.l0]; exact RS.none
  | k + 1 => by
    have ih := slices_Equal_string_string.loops k
    · intro l0 l1 x13
      simp only [slices_Equal_string_string.l0]
      refine RS.go ?_
      refine RT.br rfl (fun c6 => ?_) (fun c6 => ?_)
      · refine RT.goto rfl ?_
        refine RS.draw rfl ?_
        refine RD.br rfl (fun c1 => ?_) (fun c1 => RD.none)
        refine RD.br rfl (fun c2 => ?_) (fun c2 => RD.none)
        refine RD.br rfl (fun c3 => ?_) (fun c3 => RD.none)
        refine RD.br rfl (fun c4 => ?_) (fun c4 => RD.none)
        refine RD.fin slices_Equal_string_string.k0 slices_Equal_string_string.k1 rfl rfl (by decide +kernel) ?_
        refine RS.go ?_
        refine RT.brN rfl (fun c5 => ?_) (fun c5 => ?_)
        · refine RT.goto rfl ?_
          refine RS.weak [(0, sq eS l0), (1, sq eS l1), (12, .int .i64 (l0.length : Int)), (13, .int .i64 (wrap64 (x13 + 1)))] [] ⟨Le.eq (by first | rfl | simp), Le.eq (by first | rfl | simp), Le.eq (by first | rfl | simp), Le.eq (by first | rfl | simp), trivial⟩ trivial rfl (dom0 rfl) ?_
          exact ih l0 l1 (wrap64 (x13 + 1)) 
        · exact RT.done rfl rfl (Le.refl _) trivial rfl (dom0 rfl)
      · exact RT.done rfl rfl (Le.refl _) trivial rfl (dom0 rfl)
theorem slices_Equal_string_string.ok (k : Nat) (l0 : List ByteArray) (l1 : List ByteArray) (r : Bool) (h : slices_Equal_string_string.f k l0 l1 = some r) : Ct Tryz.prog B 16 [sq eS l0, sq eS l1] (ofL []) (.bool r) (ofL []) := by
  refine Ct.of (Y := (fam Tryz.f16 [] [] [] (fun r : Bool => .bool r) (fun r => []))) Tryz.func16 rfl Tryz.call16 rfl rfl ?_ r h
  unfold slices_Equal_string_string.f
  refine RS.go ?_
  refine RT.brN rfl (fun c7 => ?_) (fun c7 => ?_)
  · refine RT.goto rfl ?_
    refine RS.weak [(0, sq eS l0), (1, sq eS l1), (12, .int .i64 (l0.length : Int)), (13, .int .i64 0)] [] ⟨Le.eq (by first | rfl | simp), Le.eq (by first | rfl | simp), Le.eq (by first | rfl | simp), Le.eq (by first | rfl | simp), trivial⟩ trivial rfl (dom0 rfl) ?_
    exact slices_Equal_string_string.loops k l0 l1 0 
  · exact RT.done rfl rfl (Le.refl _) trivial rfl (dom0 rfl)
/-! ### call_isLetter: function 110 -/
def call_isLetter.f (a0 : Int) : Option (Bool) := (if a0 ≥ 97 then Option.some (decide (a0 ≤ 122)) else Option.some false)
theorem call_isLetter.ok (a0 : Int) (r : Bool) (h : call_isLetter.f a0 = some r) : Ct Tryz.prog B 110 [.int .u8 a0] (ofL []) (.bool r) (ofL []) := by
  refine Ct.of (Y := (fam Tryz.f110 [] [] [] (fun r : Bool => .bool r) (fun r => []))) Tryz.func110 rfl Tryz.call110 rfl rfl ?_ r h
  unfold call_isLetter.f
  refine RS.go ?_
  refine RT.br rfl (fun c1 => ?_) (fun c1 => ?_)
  · refine RT.brT rfl ?_
    refine RT.brT rfl ?_
    exact RT.done rfl rfl (Le.refl _) trivial rfl (dom0 rfl)
  · refine RT.brF rfl ?_
    refine RT.brF rfl ?_
    exact RT.done rfl rfl (Le.refl _) trivial rfl (dom0 rfl)
/-! ### call_isDigit: function 94 -/
def call_isDigit.f (a0 : Int) : Option (Bool) := (if a0 ≥ 48 then Option.some (decide (a0 ≤ 57)) else Option.some false)
theorem call_isDigit.ok (a0 : Int) (r : Bool) (h : call_isDigit.f a0 = some r) : Ct Tryz.prog B 94 [.int .u8 a0] (ofL []) (.bool r) (ofL []) := by
  refine Ct.of (Y := (fam Tryz.f94 [] [] [] (fun r : Bool => .bool r) (fun r => []))) Tryz.func94 rfl Tryz.call94 rfl rfl ?_ r h
  unfold call_isDigit.f
  refine RS.go ?_
  refine RT.br rfl (fun c1 => ?_) (fun c1 => ?_)
  · refine RT.brT rfl ?_
    refine RT.brT rfl ?_
    exact RT.done rfl rfl (Le.refl _) trivial rfl (dom0 rfl)
  · refine RT.brF rfl ?_
    refine RT.brF rfl ?_
    exact RT.done rfl rfl (Le.refl _) trivial rfl (dom0 rfl)
/-! ### call_isPlain: function 93 -/
mutual
def call_isPlain.j8 : Nat → ByteArray → Int → Int → Option (Int × Bool)
  | 0, _, _, _ => Option.none
  | k + 1, a0, x7, x2j8 => call_isPlain.l0 k a0 x2j8 (wrap64 (x7 + 1))
def call_isPlain.l0 : Nat → ByteArray → Int → Int → Option (Int × Bool)
  | 0, _, _, _ => Option.none
  | k + 1, a0, x2, x7 => (if x7 < (a0.size : Int) then (if 0 ≤ x7 then (if x7 < (a0.size : Int) then ((call_isLetter.f (bt a0 x7)).bind fun r3 => (if r3 = true then call_isPlain.j8 k a0 x7 (wrap64 (x2 + 1)) else (if 0 ≤ x7 then (if x7 < (a0.size : Int) then ((call_isDigit.f (bt a0 x7)).bind fun r6 => (if r6 = true then call_isPlain.j8 k a0 x7 x2 else Option.some (0, false))) else Option.none) else Option.none))) else Option.none) else Option.none) else Option.some (x2, true))
end
def call_isPlain.f (k : Nat) (a0 : ByteArray) : Option (Int × Bool) := call_isPlain.l0 k a0 0 0
theorem call_isPlain.loops : ∀ k, (∀ (a0 : ByteArray) (x7 : Int) (x2j8 : Int), RS (fam Tryz.f93 [8] [] [] (fun r : Int × Bool => .tup [.int .i64 r.1, .bool r.2]) (fun r => [])) (Func.reg Tryz.f93 8) ⟨ofT [(0, .str a0), (2, .int .i64 x2j8), (6, .int .i64 (a0.size : Int)), (7, .int .i64 x7)], ofL []⟩ (call_isPlain.j8 k a0 x7 x2j8)) ∧ (∀ (a0 : ByteArray) (x2 : Int) (x7 : Int), RS (fam Tryz.f93 [8] [] [] (fun r : Int × Bool => .tup [.int .i64 r.1, .bool r.2]) (fun r => [])) (Func.head Tryz.f93 0) ⟨ofT [(0, .str a0), (2, .int .i64 x2), (6, .int .i64 (a0.size : Int)), (7, .int .i64 x7)], ofL []⟩ (call_isPlain.l0 k a0 x2 x7))
  | 0 => ⟨by intro _ _ _; simp only [call_isPlain.j8]; exact RS.none, by intro _ _ _; simp only [call_isPlain.l0]; exact RS.none⟩
  | k + 1 => by
    have ih := call_isPlain.loops k
    refine ⟨?_, ?_⟩
    · intro a0 x7 x2j8
      simp only [call_isPlain.j8]
      refine RS.region ?_
      refine RS.go ?_
      refine RT.goto rfl ?_
      refine RS.weak [(0, .str a0), (2, .int .i64 x2j8), (6, .int .i64 (a0.size : Int)), (7, .int .i64 (wrap64 (x7 + 1)))] [] ⟨Le.eq (by first | rfl | simp), Le.eq (by first | rfl | simp), Le.eq (by first | rfl | simp), Le.eq (by first | rfl | simp), trivial⟩ trivial rfl (dom0 rfl) ?_
      exact ih.2 a0 x2j8 (wrap64 (x7 + 1)) 
    · intro a0 x2 x7
      simp only [call_isPlain.l0]
      refine RS.go ?_
      refine RT.br rfl (fun c9 => ?_) (fun c9 => ?_)
      · refine RT.br rfl (fun c1 => ?_) (fun c1 => RT.none)
        refine RT.br rfl (fun c2 => ?_) (fun c2 => RT.none)
        refine RT.call0 rfl (fun _ h => call_isLetter.ok (bt a0 x7) _ h) (LeL.eq rfl) (fun _ => rfl) (fun r3 => ?_)
        refine RS.go ?_
        refine RT.brB rfl (fun c8 => ?_) (fun c8 => ?_)
        · refine RT.goto rfl ?_
          refine RS.weak [(0, .str a0), (2, .int .i64 (wrap64 (x2 + 1))), (6, .int .i64 (a0.size : Int)), (7, .int .i64 x7)] [] ⟨Le.eq (by first | rfl | simp), Le.eq (by first | rfl | simp), Le.eq (by first | rfl | simp), Le.eq (by first | rfl | simp), trivial⟩ trivial rfl (dom0 rfl) ?_
          exact ih.1 a0 x7 (wrap64 (x2 + 1)) 
        · refine RT.br rfl (fun c4 => ?_) (fun c4 => RT.none)
          refine RT.br rfl (fun c5 => ?_) (fun c5 => RT.none)
          refine RT.call0 rfl (fun _ h => call_isDigit.ok (bt a0 x7) _ h) (LeL.eq rfl) (fun _ => rfl) (fun r6 => ?_)
          refine RS.go ?_
          refine RT.brBN rfl (fun c7 => ?_) (fun c7 => ?_)
          · refine RT.goto rfl ?_
            refine RS.weak [(0, .str a0), (2, .int .i64 x2), (6, .int .i64 (a0.size : Int)), (7, .int .i64 x7)] [] ⟨Le.eq (by first | rfl | simp), Le.eq (by first | rfl | simp), Le.eq (by first | rfl | simp), Le.eq (by first | rfl | simp), trivial⟩ trivial rfl (dom0 rfl) ?_
            exact ih.1 a0 x7 x2 
          · exact RT.done rfl rfl (Le.tup (LeL.cons (Le.refl _) (LeL.cons (Le.refl _) (LeL.nil)))) trivial rfl (dom0 rfl)
      · exact RT.done rfl rfl (Le.tup (LeL.cons (Le.refl _) (LeL.cons (Le.refl _) (LeL.nil)))) trivial rfl (dom0 rfl)
theorem call_isPlain.ok (k : Nat) (a0 : ByteArray) (r : Int × Bool) (h : call_isPlain.f k a0 = some r) : Ct Tryz.prog B 93 [.str a0] (ofL []) (.tup [.int .i64 r.1, .bool r.2]) (ofL []) := by
  refine Ct.of (Y := (fam Tryz.f93 [8] [] [] (fun r : Int × Bool => .tup [.int .i64 r.1, .bool r.2]) (fun r => []))) Tryz.func93 rfl Tryz.call93 rfl rfl ?_ r h
  unfold call_isPlain.f
  refine RS.go ?_
  refine RT.goto rfl ?_
  refine RS.weak [(0, .str a0), (2, .int .i64 0), (6, .int .i64 (a0.size : Int)), (7, .int .i64 0)] [] ⟨Le.eq (by first | rfl | simp), Le.eq (by first | rfl | simp), Le.eq (by first | rfl | simp), Le.eq (by first | rfl | simp), trivial⟩ trivial rfl (dom0 rfl) ?_
  exact (call_isPlain.loops k).2 a0 0 0 
def strings_IndexRune.f (a0 : ByteArray) (a1 : Int) : Option (Int) := if 0 ≤ a1 ∧ a1 < 128 then some (Lib.indexByte a0.data.toList a1.toNat.toUInt8) else none
theorem strings_IndexRune.ok (a0 : ByteArray) (a1 : Int) (r : Int) (h : strings_IndexRune.f a0 a1 = some r) : Ct Tryz.prog B 119 [.str a0, .int .i32 a1] (ofL []) (.int .i64 r) (ofL []) := by
  unfold strings_IndexRune.f at h
  split at h
  case isFalse => cases h
  case isTrue c =>
  cases h
  refine Ct.lib Tryz.call119 rfl rfl fun g w hb => (Tryz.strings_IndexRune_ascii a0 a1 w c.1 c.2).mono fun e w' ⟨he, hw⟩ => ⟨he, hw ▸ Below.refl _ _⟩

/-! ### strings_shouldUseASCIISet: function 120 -/
def strings_shouldUseASCIISet.f (a0 : Int) : Option (Bool) := Option.some (decide (a0 > 8))
theorem strings_shouldUseASCIISet.ok (a0 : Int) (r : Bool) (h : strings_shouldUseASCIISet.f a0 = some r) : Ct Tryz.prog B 120 [.int .i64 a0] (ofL []) (.bool r) (ofL []) := by
  refine Ct.of (Y := (fam Tryz.f120 [] [] [] (fun r : Bool => .bool r) (fun r => []))) Tryz.func120 rfl Tryz.call120 rfl rfl ?_ r h
  unfold strings_shouldUseASCIISet.f
  refine RS.go ?_
  exact RT.done rfl rfl (Le.refl _) trivial rfl (dom0 rfl)
/-! ### unicode_utf8_decodeRuneInStringSlow: function 144 -/
def unicode_utf8_decodeRuneInStringSlow.f (a0 : ByteArray) : Option (Int × Int) := (if (a0.size : Int) < 1 then Option.some (65533, 0) else Option.none)
theorem unicode_utf8_decodeRuneInStringSlow.ok (a0 : ByteArray) (r : Int × Int) (h : unicode_utf8_decodeRuneInStringSlow.f a0 = some r) : Ct Tryz.prog B 144 [.str a0] (ofL []) (.tup [.int .i32 r.1, .int .i64 r.2]) (ofL []) := by
  refine Ct.of (Y := (fam Tryz.f144 [] [] [] (fun r : Int × Int => .tup [.int .i32 r.1, .int .i64 r.2]) (fun r => []))) Tryz.func144 rfl Tryz.call144 rfl rfl ?_ r h
  unfold unicode_utf8_decodeRuneInStringSlow.f
  refine RS.go ?_
  refine RT.br rfl (fun c2 => ?_) (fun c2 => ?_)
  · exact RT.done rfl rfl (Le.tup (LeL.cons (Le.refl _) (LeL.cons (Le.refl _) (LeL.nil)))) trivial rfl (dom0 rfl)
  · exact RT.none
/-! ### unicode_utf8_DecodeRuneInString: function 138 -/
def unicode_utf8_DecodeRuneInString.f (a0 : ByteArray) : Option (Int × Int) := (if a0 = (⟨#[]⟩ : ByteArray) then ((unicode_utf8_decodeRuneInStringSlow.f a0).bind fun r5 => Option.some (r5.1, r5.2)) else (if 0 < (a0.size : Int) then (if bt a0 0 < 128 then (if 0 < (a0.size : Int) then Option.some (IntKind.i32.wrap (bt a0 0), 1) else Option.none) else ((unicode_utf8_decodeRuneInStringSlow.f a0).bind fun r3 => Option.some (r3.1, r3.2))) else Option.none))
theorem unicode_utf8_DecodeRuneInString.ok (a0 : ByteArray) (r : Int × Int) (h : unicode_utf8_DecodeRuneInString.f a0 = some r) : Ct Tryz.prog B 138 [.str a0] (ofL []) (.tup [.int .i32 r.1, .int .i64 r.2]) (ofL []) := by
  refine Ct.of (Y := (fam Tryz.f138 [] [] [] (fun r : Int × Int => .tup [.int .i32 r.1, .int .i64 r.2]) (fun r => []))) Tryz.func138 rfl Tryz.call138 rfl rfl ?_ r h
  unfold unicode_utf8_DecodeRuneInString.f
  refine RS.go ?_
  refine RT.brN rfl (fun c6 => ?_) (fun c6 => ?_)
  · refine RT.brF rfl ?_
    refine RT.brF rfl ?_
    refine RT.brF rfl ?_
    refine RT.brF rfl ?_
    refine RT.call0 rfl (fun _ h => unicode_utf8_decodeRuneInStringSlow.ok a0 _ h) (LeL.eq rfl) (fun _ => rfl) (fun r5 => ?_)
    refine RS.go ?_
    exact RT.done rfl rfl (Le.tup (LeL.cons (Le.refl _) (LeL.cons (Le.refl _) (LeL.nil)))) trivial rfl (dom0 rfl)
  · refine RT.brT rfl ?_
    refine RT.brT rfl ?_
    refine RT.br rfl (fun c1 => ?_) (fun c1 => RT.none)
    refine RT.brT rfl ?_
    refine RT.brT rfl ?_
    refine RT.br rfl (fun c4 => ?_) (fun c4 => ?_)
    · refine RT.brT rfl ?_
      refine RT.br rfl (fun c2 => ?_) (fun c2 => RT.none)
      exact RT.done rfl rfl (Le.tup (LeL.cons (Le.refl _) (LeL.cons (Le.refl _) (LeL.nil)))) trivial rfl (dom0 rfl)
    · refine RT.call0 rfl (fun _ h => unicode_utf8_decodeRuneInStringSlow.ok a0 _ h) (LeL.eq rfl) (fun _ => rfl) (fun r3 => ?_)
      refine RS.go ?_
      exact RT.done rfl rfl (Le.tup (LeL.cons (Le.refl _) (LeL.cons (Le.refl _) (LeL.nil)))) trivial rfl (dom0 rfl)
/-! ### unicode_utf8_DecodeLastRuneInString: function 123 -/
mutual
def unicode_utf8_DecodeLastRuneInString.j15 : Nat → ByteArray → Int → Option (Int × Int)
  | 0, _, _ => Option.none
  | k + 1, a0, x5j15 => (if 0 ≤ (a0.size : Int) then (if (a0.size : Int) ≤ (a0.size : Int) then (if 0 ≤ x5j15 then (if x5j15 ≤ (a0.size : Int) then ((unicode_utf8_DecodeRuneInString.f (a0.extract (x5j15).toNat ((a0.size : Int)).toNat)).bind fun r9 => (if wrap64 (x5j15 + r9.2) = (a0.size : Int) then Option.some (r9.1, r9.2) else Option.some (65533, 1))) else Option.none) else Option.none) else Option.none) else Option.none)
def unicode_utf8_DecodeLastRuneInString.l0 : Nat → ByteArray → Option (Int × Int)
  | 0, _ => Option.none
  | k + 1, a0 => (if wrap64 ((wrap64 ((a0.size : Int) - 1)) - 1) ≥ mx (wrap64 ((a0.size : Int) - 4)) 0 then Option.none else (if wrap64 ((wrap64 ((a0.size : Int) - 1)) - 1) < 0 then unicode_utf8_DecodeLastRuneInString.j15 k a0 0 else unicode_utf8_DecodeLastRuneInString.j15 k a0 (wrap64 ((wrap64 ((a0.size : Int) - 1)) - 1))))
end
def unicode_utf8_DecodeLastRuneInString.f (k : Nat) (a0 : ByteArray) : Option (Int × Int) := (if (a0.size : Int) = 0 then Option.some (65533, 0) else (if 0 ≤ wrap64 ((a0.size : Int) - 1) then (if wrap64 ((a0.size : Int) - 1) < (a0.size : Int) then (if IntKind.i32.wrap (bt a0 (wrap64 ((a0.size : Int) - 1))) < 128 then Option.some (IntKind.i32.wrap (bt a0 (wrap64 ((a0.size : Int) - 1))), 1) else unicode_utf8_DecodeLastRuneInString.l0 k a0) else Option.none) else Option.none))
theorem unicode_utf8_DecodeLastRuneInString.loops : ∀ k, (∀ (a0 : ByteArray) (x5j15 : Int), RS (fam Tryz.f123 [15] [] [] (fun r : Int × Int => .tup [.int .i32 r.1, .int .i64 r.2]) (fun r => [])) (Func.reg Tryz.f123 15) ⟨ofT [(0, .str a0), (4, .int .i64 (a0.size : Int)), (5, .int .i64 x5j15)], ofL []⟩ (unicode_utf8_DecodeLastRuneInString.j15 k a0 x5j15)) ∧ (∀ (a0 : ByteArray), RS (fam Tryz.f123 [15] [] [] (fun r : Int × Int => .tup [.int .i32 r.1, .int .i64 r.2]) (fun r => [])) (Func.head Tryz.f123 0) ⟨ofT [(0, .str a0), (4, .int .i64 (a0.size : Int)), (5, .int .i64 (wrap64 ((wrap64 ((a0.size : Int) - 1)) - 1))), (6, .int .i64 (mx (wrap64 ((a0.size : Int) - 4)) 0))], ofL []⟩ (unicode_utf8_DecodeLastRuneInString.l0 k a0))
  | 0 => ⟨by intro _ _; simp only [unicode_utf8_DecodeLastRuneInString.j15]; exact RS.none, by intro _; simp only [unicode_utf8_DecodeLastRuneInString.l0]; exact RS.none⟩
  | k + 1 => by
    have ih := unicode_utf8_DecodeLastRuneInString.loops k
    refine ⟨?_, ?_⟩
    · intro a0 x5j15
      simp only [unicode_utf8_DecodeLastRuneInString.j15]
      refine RS.region ?_
      refine RS.go ?_
      refine RT.br rfl (fun c5 => ?_) (fun c5 => RT.none)
      refine RT.br rfl (fun c6 => ?_) (fun c6 => RT.none)
      refine RT.br rfl (fun c7 => ?_) (fun c7 => RT.none)
      refine RT.br rfl (fun c8 => ?_) (fun c8 => RT.none)
      refine RT.call0 rfl (fun _ h => unicode_utf8_DecodeRuneInString.ok (a0.extract (x5j15).toNat ((a0.size : Int)).toNat) _ h) (LeL.eq rfl) (fun _ => rfl) (fun r9 => ?_)
      refine RS.go ?_
      refine RT.brN rfl (fun c10 => ?_) (fun c10 => ?_)
      · exact RT.done rfl rfl (Le.tup (LeL.cons (Le.refl _) (LeL.cons (Le.refl _) (LeL.nil)))) trivial rfl (dom0 rfl)
      · exact RT.done rfl rfl (Le.tup (LeL.cons (Le.refl _) (LeL.cons (Le.refl _) (LeL.nil)))) trivial rfl (dom0 rfl)
    · intro a0
      simp only [unicode_utf8_DecodeLastRuneInString.l0]
      refine RS.go ?_
      refine RT.br rfl (fun c12 => ?_) (fun c12 => ?_)
      · exact RT.none
      · refine RT.br rfl (fun c11 => ?_) (fun c11 => ?_)
        · refine RT.goto rfl ?_
          refine RS.weak [(0, .str a0), (4, .int .i64 (a0.size : Int)), (5, .int .i64 0)] [] ⟨Le.eq (by first | rfl | simp), Le.eq (by first | rfl | simp), Le.eq (by first | rfl | simp), trivial⟩ trivial rfl (dom0 rfl) ?_
          exact ih.1 a0 0 
        · refine RT.goto rfl ?_
          refine RS.weak [(0, .str a0), (4, .int .i64 (a0.size : Int)), (5, .int .i64 (wrap64 ((wrap64 ((a0.size : Int) - 1)) - 1)))] [] ⟨Le.eq (by first | rfl | simp), Le.eq (by first | rfl | simp), Le.eq (by first | rfl | simp), trivial⟩ trivial rfl (dom0 rfl) ?_
          exact ih.1 a0 (wrap64 ((wrap64 ((a0.size : Int) - 1)) - 1)) 
theorem unicode_utf8_DecodeLastRuneInString.ok (k : Nat) (a0 : ByteArray) (r : Int × Int) (h : unicode_utf8_DecodeLastRuneInString.f k a0 = some r) : Ct Tryz.prog B 123 [.str a0] (ofL []) (.tup [.int .i32 r.1, .int .i64 r.2]) (ofL []) := by
  refine Ct.of (Y := (fam Tryz.f123 [15] [] [] (fun r : Int × Int => .tup [.int .i32 r.1, .int .i64 r.2]) (fun r => []))) Tryz.func123 rfl Tryz.call123 rfl rfl ?_ r h
  unfold unicode_utf8_DecodeLastRuneInString.f
  refine RS.go ?_
  refine RT.br rfl (fun c14 => ?_) (fun c14 => ?_)
  · exact RT.done rfl rfl (Le.tup (LeL.cons (Le.refl _) (LeL.cons (Le.refl _) (LeL.nil)))) trivial rfl (dom0 rfl)
  · refine RT.br rfl (fun c1 => ?_) (fun c1 => RT.none)
    refine RT.br rfl (fun c2 => ?_) (fun c2 => RT.none)
    refine RT.br rfl (fun c13 => ?_) (fun c13 => ?_)
    · exact RT.done rfl rfl (Le.tup (LeL.cons (Le.refl _) (LeL.cons (Le.refl _) (LeL.nil)))) trivial rfl (dom0 rfl)
    · refine RT.goto rfl ?_
      refine RS.weak [(0, .str a0), (4, .int .i64 (a0.size : Int)), (5, .int .i64 (wrap64 ((wrap64 ((a0.size : Int) - 1)) - 1))), (6, .int .i64 (mx (wrap64 ((a0.size : Int) - 4)) 0))] [] ⟨Le.eq (by first | rfl | simp), Le.eq (by first | rfl | simp), Le.eq (by first | rfl | simp), Le.eq (by first | rfl | simp), trivial⟩ trivial rfl (dom0 rfl) ?_
      exact (unicode_utf8_DecodeLastRuneInString.loops k).2 a0 
/-! ### strings_LastIndexAny_s: function 108 -/
mutual
def strings_LastIndexAny_s.j7 : Nat → ByteArray → Int → Option (Int)
  | 0, _, _ => Option.none
  | k + 1, a1, x5j7 => ((strings_IndexRune.f a1 x5j7).bind fun r2 => (if r2 ≥ 0 then Option.some 0 else Option.some (-1)))
def strings_LastIndexAny_s.l1 : Nat → ByteArray → Int → Int → Option (Int)
  | 0, _, _, _ => Option.none
  | k + 1, a0, x9j23, x10b => (if x10b > 0 then (if 0 ≤ x10b then (if x10b ≤ (a0.size : Int) then ((unicode_utf8_DecodeLastRuneInString.f k (a0.extract 0 (x10b).toNat)).bind fun r9 => (if x9j23 = r9.1 then Option.some (wrap64 (x10b - r9.2)) else strings_LastIndexAny_s.l1 k a0 x9j23 (wrap64 (x10b - r9.2)))) else Option.none) else Option.none) else Option.some (-1))
def strings_LastIndexAny_s.j23 : Nat → ByteArray → Int → Option (Int)
  | 0, _, _ => Option.none
  | k + 1, a0, x9j23 => strings_LastIndexAny_s.l1 k a0 x9j23 (a0.size : Int)
def strings_LastIndexAny_s.l2 : Nat → ByteArray → ByteArray → Int → Option (Int)
  | 0, _, _, _ => Option.none
  | k + 1, a0, a1, x13c => (if x13c > 0 then (if 0 ≤ x13c then (if x13c ≤ (a0.size : Int) then ((unicode_utf8_DecodeLastRuneInString.f k (a0.extract 0 (x13c).toNat)).bind fun r15 => ((strings_IndexRune.f a1 r15.1).bind fun r16 => (if r16 ≥ 0 then Option.some (wrap64 (x13c - r15.2)) else strings_LastIndexAny_s.l2 k a0 a1 (wrap64 (x13c - r15.2))))) else Option.none) else Option.none) else Option.some (-1))
def strings_LastIndexAny_s.j19 : Nat → ByteArray → ByteArray → Option (Int)
  | 0, _, _ => Option.none
  | k + 1, a0, a1 => (if (a1.size : Int) = 1 then (if 0 < (a1.size : Int) then (if IntKind.i32.wrap (bt a1 0) ≥ 128 then strings_LastIndexAny_s.j23 k a0 65533 else strings_LastIndexAny_s.j23 k a0 (IntKind.i32.wrap (bt a1 0))) else Option.none) else strings_LastIndexAny_s.l2 k a0 a1 (a0.size : Int))
end
def strings_LastIndexAny_s.f (k : Nat) (a0 : ByteArray) (a1 : ByteArray) : Option (Int) := (if a1 = (⟨#[]⟩ : ByteArray) then Option.some (-1) else (if (a0.size : Int) = 1 then (if 0 < (a0.size : Int) then (if IntKind.i32.wrap (bt a0 0) ≥ 128 then strings_LastIndexAny_s.j7 k a1 65533 else strings_LastIndexAny_s.j7 k a1 (IntKind.i32.wrap (bt a0 0))) else Option.none) else ((strings_shouldUseASCIISet.f (a0.size : Int)).bind fun r5 => (if r5 = true then Option.none else strings_LastIndexAny_s.j19 k a0 a1))))
theorem strings_LastIndexAny_s.loops : ∀ k, (∀ (a1 : ByteArray) (x5j7 : Int), RS (fam Tryz.f108 [7, 19, 23] [] [] (fun r : Int => .int .i64 r) (fun r => [])) (Func.reg Tryz.f108 7) ⟨ofT [(1, .str a1), (5, .int .i32 x5j7)], ofL []⟩ (strings_LastIndexAny_s.j7 k a1 x5j7)) ∧ (∀ (a0 : ByteArray) (x9j23 : Int) (x10b : Int), RS (fam Tryz.f108 [7, 19, 23] [] [] (fun r : Int => .int .i64 r) (fun r => [])) (Func.head Tryz.f108 1) ⟨ofT [(0, .str a0), (9, .int .i32 x9j23), (10, .int .i64 x10b)], ofL []⟩ (strings_LastIndexAny_s.l1 k a0 x9j23 x10b)) ∧ (∀ (a0 : ByteArray) (x9j23 : Int), RS (fam Tryz.f108 [7, 19, 23] [] [] (fun r : Int => .int .i64 r) (fun r => [])) (Func.reg Tryz.f108 23) ⟨ofT [(0, .str a0), (9, .int .i32 x9j23)], ofL []⟩ (strings_LastIndexAny_s.j23 k a0 x9j23)) ∧ (∀ (a0 : ByteArray) (a1 : ByteArray) (x13c : Int), RS (fam Tryz.f108 [7, 19, 23] [] [] (fun r : Int => .int .i64 r) (fun r => [])) (Func.head Tryz.f108 2) ⟨ofT [(0, .str a0), (1, .str a1), (13, .int .i64 x13c)], ofL []⟩ (strings_LastIndexAny_s.l2 k a0 a1 x13c)) ∧ (∀ (a0 : ByteArray) (a1 : ByteArray), RS (fam Tryz.f108 [7, 19, 23] [] [] (fun r : Int => .int .i64 r) (fun r => [])) (Func.reg Tryz.f108 19) ⟨ofT [(0, .str a0), (1, .str a1)], ofL []⟩ (strings_LastIndexAny_s.j19 k a0 a1))
  | 0 => ⟨by intro _ _; simp only [strings_LastIndexAny_s.j7]; exact RS.none, by intro _ _ _; simp only [strings_LastIndexAny_s.l1]; exact RS.none, by intro _ _; simp only [strings_LastIndexAny_s.j23]; exact RS.none, by intro _ _ _; simp only [strings_LastIndexAny_s.l2]; exact RS.none, by intro _ _; simp only [strings_LastIndexAny_s.j19]; exact RS.none⟩
  | k + 1 => by
    have ih := strings_LastIndexAny_s.loops k
    refine ⟨?_, ?_, ?_, ?_, ?_⟩
    · intro a1 x5j7
      simp only [strings_LastIndexAny_s.j7]
      refine RS.region ?_
      refine RS.go ?_
      refine RT.call0 rfl (fun _ h => strings_IndexRune.ok a1 x5j7 _ h) (LeL.eq rfl) (fun _ => rfl) (fun r2 => ?_)
      refine RS.go ?_
      refine RT.br rfl (fun c3 => ?_) (fun c3 => ?_)
      · exact RT.done rfl rfl (Le.refl _) trivial rfl (dom0 rfl)
      · exact RT.done rfl rfl (Le.refl _) trivial rfl (dom0 rfl)
    · intro a0 x9j23 x10b
      simp only [strings_LastIndexAny_s.l1]
      refine RS.go ?_
      refine RT.br rfl (fun c11 => ?_) (fun c11 => ?_)
      · refine RT.br rfl (fun c7 => ?_) (fun c7 => RT.none)
        refine RT.br rfl (fun c8 => ?_) (fun c8 => RT.none)
        refine RT.call0 rfl (fun _ h => unicode_utf8_DecodeLastRuneInString.ok k (a0.extract 0 (x10b).toNat) _ h) (LeL.eq rfl) (fun _ => rfl) (fun r9 => ?_)
        refine RS.go ?_
        refine RT.br rfl (fun c10 => ?_) (fun c10 => ?_)
        · exact RT.done rfl rfl (Le.refl _) trivial rfl (dom0 rfl)
        · refine RT.goto rfl ?_
          refine RS.weak [(0, .str a0), (9, .int .i32 x9j23), (10, .int .i64 (wrap64 (x10b - r9.2)))] [] ⟨Le.eq (by first | rfl | simp), Le.eq (by first | rfl | simp), Le.eq (by first | rfl | simp), trivial⟩ trivial rfl (dom0 rfl) ?_
          exact ih.2.1 a0 x9j23 (wrap64 (x10b - r9.2)) 
      · exact RT.done rfl rfl (Le.refl _) trivial rfl (dom0 rfl)
    · intro a0 x9j23
      simp only [strings_LastIndexAny_s.j23]
      refine RS.region ?_
      refine RS.go ?_
      refine RT.goto rfl ?_
      refine RS.weak [(0, .str a0), (9, .int .i32 x9j23), (10, .int .i64 (a0.size : Int))] [] ⟨Le.eq (by first | rfl | simp), Le.eq (by first | rfl | simp), Le.eq (by first | rfl | simp), trivial⟩ trivial rfl (dom0 rfl) ?_
      exact ih.2.1 a0 x9j23 (a0.size : Int) 
    · intro a0 a1 x13c
      simp only [strings_LastIndexAny_s.l2]
      refine RS.go ?_
      refine RT.br rfl (fun c18 => ?_) (fun c18 => ?_)
      · refine RT.br rfl (fun c13 => ?_) (fun c13 => RT.none)
        refine RT.br rfl (fun c14 => ?_) (fun c14 => RT.none)
        refine RT.call0 rfl (fun _ h => unicode_utf8_DecodeLastRuneInString.ok k (a0.extract 0 (x13c).toNat) _ h) (LeL.eq rfl) (fun _ => rfl) (fun r15 => ?_)
        refine RS.go ?_
        refine RT.call0 rfl (fun _ h => strings_IndexRune.ok a1 r15.1 _ h) (LeL.eq rfl) (fun _ => rfl) (fun r16 => ?_)
        refine RS.go ?_
        refine RT.br rfl (fun c17 => ?_) (fun c17 => ?_)
        · exact RT.done rfl rfl (Le.refl _) trivial rfl (dom0 rfl)
        · refine RT.goto rfl ?_
          refine RS.weak [(0, .str a0), (1, .str a1), (13, .int .i64 (wrap64 (x13c - r15.2)))] [] ⟨Le.eq (by first | rfl | simp), Le.eq (by first | rfl | simp), Le.eq (by first | rfl | simp), trivial⟩ trivial rfl (dom0 rfl) ?_
          exact ih.2.2.2.1 a0 a1 (wrap64 (x13c - r15.2)) 
      · exact RT.done rfl rfl (Le.refl _) trivial rfl (dom0 rfl)
    · intro a0 a1
      simp only [strings_LastIndexAny_s.j19]
      refine RS.region ?_
      refine RS.go ?_
      refine RT.br rfl (fun c19 => ?_) (fun c19 => ?_)
      · refine RT.brT rfl ?_
        refine RT.br rfl (fun c6 => ?_) (fun c6 => RT.none)
        refine RT.br rfl (fun c12 => ?_) (fun c12 => ?_)
        · refine RT.goto rfl ?_
          refine RS.weak [(0, .str a0), (9, .int .i32 65533)] [] ⟨Le.eq (by first | rfl | simp), Le.eq (by first | rfl | simp), trivial⟩ trivial rfl (dom0 rfl) ?_
          exact ih.2.2.1 a0 65533 
        · refine RT.goto rfl ?_
          refine RS.weak [(0, .str a0), (9, .int .i32 (IntKind.i32.wrap (bt a1 0)))] [] ⟨Le.eq (by first | rfl | simp), Le.eq (by first | rfl | simp), trivial⟩ trivial rfl (dom0 rfl) ?_
          exact ih.2.2.1 a0 (IntKind.i32.wrap (bt a1 0)) 
      · refine RT.goto rfl ?_
        refine RS.weak [(0, .str a0), (1, .str a1), (13, .int .i64 (a0.size : Int))] [] ⟨Le.eq (by first | rfl | simp), Le.eq (by first | rfl | simp), Le.eq (by first | rfl | simp), trivial⟩ trivial rfl (dom0 rfl) ?_
        exact ih.2.2.2.1 a0 a1 (a0.size : Int) 
theorem strings_LastIndexAny_s.ok (k : Nat) (a0 : ByteArray) (a1 : ByteArray) (r : Int) (h : strings_LastIndexAny_s.f k a0 a1 = some r) : Ct Tryz.prog B 108 [.str a0, .str a1] (ofL []) (.int .i64 r) (ofL []) := by
  refine Ct.of (Y := (fam Tryz.f108 [7, 19, 23] [] [] (fun r : Int => .int .i64 r) (fun r => []))) Tryz.func108 rfl Tryz.call108 rfl rfl ?_ r h
  unfold strings_LastIndexAny_s.f
  refine RS.go ?_
  refine RT.br rfl (fun c22 => ?_) (fun c22 => ?_)
  · exact RT.done rfl rfl (Le.refl _) trivial rfl (dom0 rfl)
  · refine RT.br rfl (fun c21 => ?_) (fun c21 => ?_)
    · refine RT.brT rfl ?_
      refine RT.br rfl (fun c1 => ?_) (fun c1 => RT.none)
      refine RT.br rfl (fun c4 => ?_) (fun c4 => ?_)
      · refine RT.goto rfl ?_
        refine RS.weak [(1, .str a1), (5, .int .i32 65533)] [] ⟨Le.eq (by first | rfl | simp), Le.eq (by first | rfl | simp), trivial⟩ trivial rfl (dom0 rfl) ?_
        exact (strings_LastIndexAny_s.loops k).1 a1 65533 
      · refine RT.goto rfl ?_
        refine RS.weak [(1, .str a1), (5, .int .i32 (IntKind.i32.wrap (bt a0 0)))] [] ⟨Le.eq (by first | rfl | simp), Le.eq (by first | rfl | simp), trivial⟩ trivial rfl (dom0 rfl) ?_
        exact (strings_LastIndexAny_s.loops k).1 a1 (IntKind.i32.wrap (bt a0 0)) 
    · refine RT.call0 rfl (fun _ h => strings_shouldUseASCIISet.ok (a0.size : Int) _ h) (LeL.eq rfl) (fun _ => rfl) (fun r5 => ?_)
      refine RS.go ?_
      refine RT.brB rfl (fun c20 => ?_) (fun c20 => ?_)
      · exact RT.none
      · refine RT.goto rfl ?_
        refine RS.weak [(0, .str a0), (1, .str a1)] [] ⟨Le.eq (by first | rfl | simp), Le.eq (by first | rfl | simp), trivial⟩ trivial rfl (dom0 rfl) ?_
        exact (strings_LastIndexAny_s.loops k).2.2.2.2 a0 a1 
def sMake.f (a0 : ByteArray) : Option ByteArray := if a0.size < 4294967281 ∧ asciiT a0 = true then some a0 else none
theorem sMake.ok (a0 r : ByteArray) (h : sMake.f a0 = some r) : Ct Tryz.prog B 121 [.str a0] (ofL []) (.tup [.agg (setA r), .bool true]) (ofL []) := by
  unfold sMake.f at h
  split at h
  case isFalse => cases h
  case isTrue c =>
  cases h
  refine Ct.libR (u := .tuple #[.agg (Lib.setCells a0.data.toList), .bool true]) Tryz.call121 rfl (fun g sz w => ?_) fun g w hb => (Tryz.strings_makeASCIISet (zero_of_info (n := 256) (by kernel_rfl)).1 a0 w c.1 (asciiT_at c.2)).mono fun e w' ⟨he, hw⟩ => ⟨he, ?_⟩
  · refine .tup _ _ rfl fun i hi => ?_
    rcases (by simp at hi; omega : i = 0 ∨ i = 1) with rfl | rfl
    · refine .agg _ _ ?_ fun j hj => ?_
      · rw [Lib.setCells_size, setA_len]
      · rw [setA_len] at hj
        rw [Lib.setCells_eq]
        simp only [setA, List.getD, List.getElem?_map, List.getElem?_range hj, Option.map_some, Option.getD_some]
        have : (Array.map (fun j => Value.bool (a0.data.toList.contains (UInt8.ofNat j))) (Array.range 256)).getD j undef = .bool (a0.data.toList.contains (UInt8.ofNat j)) := by simp [Array.getD, hj]
        rw [this]
        exact R.bool _
    · exact R.bool _
  · rw [hw]
    exact (Below.refl _ _).alloc (Nat.le_refl _) _

/-- the set lent: is a byte in it? -/
def sHas.f (a0 : ByteArray) (a1 : Int) : Option Bool := if 0 ≤ a1 ∧ a1 < 256 then some (a0.data.toList.contains (UInt8.ofNat a1.toNat)) else none
theorem sHas.ok (a0 : ByteArray) (a1 : Int) (r : Bool) (h : sHas.f a0 a1 = some r) : Ct Tryz.prog B 122 [.ref 0 0 0 0 256, .int .u8 a1] (ofL [(0, .box (setA a0))]) (.bool r) (ofL [(0, .box (setA a0))]) := by
  unfold sHas.f at h
  split at h
  case isFalse => cases h
  case isTrue c =>
  cases h
  intro g w vs hs hr hO hB
  unfold Ent
  rw [show ∀ (vs : Array Value) (w : World), (callFunc 122 vs).run Tryz.prog w = .ok (.enter 122 vs) w from Tryz.call122]
  have h0 := hr 0 (by simp)
  have h1 := hr 1 (by simp)
  have hob := hO.ob 0 _ (show ofL [(0, .box (setA a0))] 0 = some (.box (setA a0)) from rfl)
  obtain ⟨b, κ, hβ, hcell⟩ := box_cell hob
  have hsz : szf (ofL [(0, .box (setA a0))]) 0 = 256 := setA_len a0
  obtain ⟨b', κ', hβ', hv⟩ := ref_inv h0 hsz.symm
  rw [hβ] at hβ'
  cases hβ'
  have hv1 := R.int_inv h1
  have e : vs = #[.pointer (some ⟨b, 0, none⟩), .int .u8 ((UInt8.ofNat a1.toNat).toNat : Int)] := by
    have ha : ((UInt8.ofNat a1.toNat).toNat : Int) = a1 := by rw [UInt8.toNat_ofNat']; omega
    rw [ha]
    apply Array.ext
    · simpa using hs
    · intro i hi hi2
      have hi3 : i < 2 := by simpa using hi2
      rcases (by omega : i = 0 ∨ i = 1) with rfl | rfl
      · have : vs.getD 0 undef = vs[0] := by simp [Array.getD, hi]
        rw [this] at hv
        simpa using hv
      · have : vs.getD 1 undef = vs[1] := by simp [Array.getD, hi]
        rw [this] at hv1
        simpa using hv1
  rw [e]
  refine (Tryz.asciiSet_contains b (UInt8.ofNat a1.toNat) _ w (hcell _)).mono fun e w' ⟨he, hw⟩ => ?_
  subst hw
  exact ⟨_, he, g, R.bool _, hO, Fr.refl _ _, Kp.refl _ _⟩
def sLast.l9 : Nat → ByteArray → ByteArray → Int → Option Int
  | 0, _, _, _ => Option.none
  | k + 1, a0, a1, x8 => (if x8 ≥ 0 then (if 0 ≤ x8 then (if x8 < (a0.size : Int) then ((sHas.f a1 (bt a0 x8)).bind fun r9 => (if r9 = true then Option.some x8 else sLast.l9 k a0 a1 (wrap64 (x8 - 1)))) else Option.none) else Option.none) else Option.some (-1))
theorem sLast.loops : ∀ k, (∀ (a0 : ByteArray) (a1 : ByteArray) (x8 : Int), RS (fam Tryz.f108 [1000007] [] [] (fun r : Int => .int .i64 r) (fun r => [])) (Func.head Tryz.f108 0) ⟨ofT [(0, .str a0), (6, .ref 6 0 0 0 256), (8, .int .i64 x8)], ofL [(6, .box (setA a1))]⟩ (sLast.l9 k a0 a1 x8))
  | 0 => by intro _ _ _; simp only [sLast.l9]; exact RS.none
  | k + 1 => by
    have ih := sLast.loops k
    intro a0 a1 x8
    simp only [sLast.l9]
    refine RS.go ?_
    refine RT.br rfl (fun c1 => ?_) (fun c1 => ?_)
    · refine RT.br rfl (fun c2 => ?_) (fun c2 => RT.none)
      refine RT.br rfl (fun c3 => ?_) (fun c3 => RT.none)
      refine RT.call rfl (fun _ h => sHas.ok a1 (bt a0 x8) _ h) (fun i => bif Nat.beq i 0 then 6 else i) (LeL.eq rfl) ⟨⟨_, rfl, LeO.refl _⟩, trivial⟩ (fun _ => rfl) (fun r9 => ?_)
      refine RS.go ?_
      refine RT.brB rfl (fun c4 => ?_) (fun c4 => ?_)
      · exact RT.done rfl rfl (Le.refl _) trivial rfl (dom0 rfl)
      · refine RT.goto rfl ?_
        refine RS.weak [(0, .str a0), (6, .ref 6 0 0 0 256), (8, .int .i64 (wrap64 (x8 - 1)))] [(6, .box (setA a1))] ⟨Le.eq (by first | rfl | simp), Le.eq (by first | rfl | simp), Le.eq (by first | rfl | simp), trivial⟩ ⟨⟨_, rfl, LeO.refl _⟩, trivial⟩ rfl (dom0 rfl) ?_
        exact ih a0 a1 (wrap64 (x8 - 1))
    · exact RT.done rfl rfl (Le.refl _) trivial rfl (dom0 rfl)
def sLast.f (k : Nat) (a0 : ByteArray) (a1 : ByteArray) : Option Int := (if a1 = (⟨#[]⟩ : ByteArray) then Option.none else (if (a0.size : Int) = 1 then Option.none else ((strings_shouldUseASCIISet.f (a0.size : Int)).bind fun r5 => (if r5 = true then ((sMake.f a1).bind fun r6 => sLast.l9 k a0 r6 (wrap64 ((a0.size : Int) - 1))) else Option.none))))
theorem sLast.ok (k : Nat) (a0 : ByteArray) (a1 : ByteArray) (r : Int) (h : sLast.f k a0 a1 = some r) : Ct Tryz.prog B 108 [.str a0, .str a1] (ofL []) (.int .i64 r) (ofL []) := by
  refine Ct.of (Y := (fam Tryz.f108 [1000007] [] [] (fun r : Int => .int .i64 r) (fun r => []))) Tryz.func108 rfl Tryz.call108 rfl rfl ?_ r h
  unfold sLast.f
  refine RS.go ?_
  refine RT.br rfl (fun c22 => ?_) (fun c22 => ?_)
  · exact RT.none
  · refine RT.br rfl (fun c21 => ?_) (fun c21 => ?_)
    · exact RT.none
    · refine RT.call0 rfl (fun _ h => strings_shouldUseASCIISet.ok (a0.size : Int) _ h) (LeL.eq rfl) (fun _ => rfl) (fun r5 => ?_)
      refine RS.go ?_
      refine RT.brB rfl (fun c20 => ?_) (fun c20 => ?_)
      · refine RT.call0 rfl (fun _ h => sMake.ok a1 _ h) (LeL.eq rfl) (fun _ => rfl) (fun r6 => ?_)
        refine RS.go ?_
        refine RT.goto rfl ?_
        refine RS.obj 6 (.box (setA r6)) ⟨_, rfl, LeO.putA rfl rfl⟩ ?_
        refine RS.go ?_
        refine RT.brT rfl ?_
        refine RT.goto rfl ?_
        refine RS.weak [(0, .str a0), (6, .ref 6 0 0 0 256), (8, .int .i64 (wrap64 ((a0.size : Int) - 1)))] [(6, .box (setA r6))] ⟨Le.eq (by first | rfl | simp), Le.eq (by first | rfl | simp), Le.eq (by first | rfl | simp), trivial⟩ ⟨⟨_, rfl, LeO.refl _⟩, trivial⟩ rfl (dom0 rfl) ?_
        exact sLast.loops k a0 r6 (wrap64 ((a0.size : Int) - 1))
      · exact RT.none
def strings_LastIndexAny.f (k : Nat) (a0 : ByteArray) (a1 : ByteArray) : Option Int := if 8 < a0.size then sLast.f k a0 a1 else strings_LastIndexAny_s.f k a0 a1
theorem strings_LastIndexAny.ok (k : Nat) (a0 : ByteArray) (a1 : ByteArray) (r : Int) (h : strings_LastIndexAny.f k a0 a1 = some r) : Ct Tryz.prog B 108 [.str a0, .str a1] (ofL []) (.int .i64 r) (ofL []) := by
  unfold strings_LastIndexAny.f at h
  split at h
  · exact sLast.ok k a0 a1 r h
  · exact strings_LastIndexAny_s.ok k a0 a1 r h

/-! ### call_split: function 91 -/
def call_split.f (k : Nat) (a0 : ByteArray) : Option (Int × Bool) := ((call_isPlain.f k a0).bind fun r1 => (if r1.2 = true then (if (a0.size : Int) > 10 then Option.some (0, false) else ((strings_LastIndexAny.f k a0 (⟨#[48, 49, 50, 51, 52, 53, 54, 55, 56, 57]⟩ : ByteArray)).bind fun r2 => (if r2 < 1 then Option.some (0, false) else (if r2 > 3 then Option.some (0, false) else (if wrap64 ((wrap64 ((a0.size : Int) - r2)) - 1) < 1 then Option.some (0, false) else (if wrap64 ((wrap64 ((a0.size : Int) - r2)) - 1) > 4 then Option.some (0, false) else (if 0 ≤ r2 then (if r2 ≤ (a0.size : Int) then ((call_isPlain.f k (a0.extract 0 (r2).toNat)).bind fun r5 => Option.some (r2, (decide (r5.1 > 0)))) else Option.none) else Option.none))))))) else Option.some (0, false)))
theorem call_split.ok (k : Nat) (a0 : ByteArray) (r : Int × Bool) (h : call_split.f k a0 = some r) : Ct Tryz.prog B 91 [.str a0] (ofL []) (.tup [.int .i64 r.1, .bool r.2]) (ofL []) := by
  refine Ct.of (Y := (fam Tryz.f91 [] [] [] (fun r : Int × Bool => .tup [.int .i64 r.1, .bool r.2]) (fun r => []))) Tryz.func91 rfl Tryz.call91 rfl rfl ?_ r h
  unfold call_split.f
  refine RS.go ?_
  refine RT.call0 rfl (fun _ h => call_isPlain.ok k a0 _ h) (LeL.eq rfl) (fun _ => rfl) (fun r1 => ?_)
  refine RS.go ?_
  refine RT.brBN rfl (fun c11 => ?_) (fun c11 => ?_)
  · refine RT.brF rfl ?_
    refine RT.brF rfl ?_
    refine RT.brF rfl ?_
    refine RT.br rfl (fun c10 => ?_) (fun c10 => ?_)
    · exact RT.done rfl rfl (Le.tup (LeL.cons (Le.refl _) (LeL.cons (Le.refl _) (LeL.nil)))) trivial rfl (dom0 rfl)
    · refine RT.call0 rfl (fun _ h => strings_LastIndexAny.ok k a0 (⟨#[48, 49, 50, 51, 52, 53, 54, 55, 56, 57]⟩ : ByteArray) _ h) (LeL.eq rfl) (fun _ => rfl) (fun r2 => ?_)
      refine RS.go ?_
      refine RT.br rfl (fun c9 => ?_) (fun c9 => ?_)
      · refine RT.brT rfl ?_
        refine RT.brT rfl ?_
        refine RT.brT rfl ?_
        refine RT.brT rfl ?_
        refine RT.brT rfl ?_
        refine RT.brT rfl ?_
        refine RT.brT rfl ?_
        refine RT.brT rfl ?_
        refine RT.brT rfl ?_
        refine RT.brT rfl ?_
        refine RT.brT rfl ?_
        refine RT.brT rfl ?_
        refine RT.brT rfl ?_
        refine RT.brT rfl ?_
        refine RT.brT rfl ?_
        refine RT.brT rfl ?_
        refine RT.brT rfl ?_
        exact RT.done rfl rfl (Le.tup (LeL.cons (Le.refl _) (LeL.cons (Le.refl _) (LeL.nil)))) trivial rfl (dom0 rfl)
      · refine RT.brF rfl ?_
        refine RT.brF rfl ?_
        refine RT.br rfl (fun c8 => ?_) (fun c8 => ?_)
        · refine RT.brT rfl ?_
          refine RT.brT rfl ?_
          refine RT.brT rfl ?_
          refine RT.brT rfl ?_
          refine RT.brT rfl ?_
          refine RT.brT rfl ?_
          refine RT.brT rfl ?_
          refine RT.brT rfl ?_
          refine RT.brT rfl ?_
          refine RT.brT rfl ?_
          refine RT.brT rfl ?_
          refine RT.brT rfl ?_
          refine RT.brT rfl ?_
          refine RT.brT rfl ?_
          exact RT.done rfl rfl (Le.tup (LeL.cons (Le.refl _) (LeL.cons (Le.refl _) (LeL.nil)))) trivial rfl (dom0 rfl)
        · refine RT.brF rfl ?_
          refine RT.brF rfl ?_
          refine RT.brF rfl ?_
          refine RT.brF rfl ?_
          refine RT.brF rfl ?_
          refine RT.brF rfl ?_
          refine RT.br rfl (fun c7 => ?_) (fun c7 => ?_)
          · refine RT.brT rfl ?_
            refine RT.brT rfl ?_
            refine RT.brT rfl ?_
            refine RT.brT rfl ?_
            refine RT.brT rfl ?_
            refine RT.brT rfl ?_
            refine RT.brT rfl ?_
            exact RT.done rfl rfl (Le.tup (LeL.cons (Le.refl _) (LeL.cons (Le.refl _) (LeL.nil)))) trivial rfl (dom0 rfl)
          · refine RT.brF rfl ?_
            refine RT.brF rfl ?_
            refine RT.brF rfl ?_
            refine RT.brF rfl ?_
            refine RT.brF rfl ?_
            refine RT.brF rfl ?_
            refine RT.br rfl (fun c6 => ?_) (fun c6 => ?_)
            · exact RT.done rfl rfl (Le.tup (LeL.cons (Le.refl _) (LeL.cons (Le.refl _) (LeL.nil)))) trivial rfl (dom0 rfl)
            · refine RT.br rfl (fun c3 => ?_) (fun c3 => RT.none)
              refine RT.br rfl (fun c4 => ?_) (fun c4 => RT.none)
              refine RT.call0 rfl (fun _ h => call_isPlain.ok k (a0.extract 0 (r2).toNat) _ h) (LeL.eq rfl) (fun _ => rfl) (fun r5 => ?_)
              refine RS.go ?_
              exact RT.done rfl rfl (Le.tup (LeL.cons (Le.refl _) (LeL.cons (Le.refl _) (LeL.nil)))) trivial rfl (dom0 rfl)
  · refine RT.brT rfl ?_
    refine RT.brT rfl ?_
    refine RT.brT rfl ?_
    refine RT.brT rfl ?_
    exact RT.done rfl rfl (Le.tup (LeL.cons (Le.refl _) (LeL.cons (Le.refl _) (LeL.nil)))) trivial rfl (dom0 rfl)
/-! ### call_based: function 74 -/
def call_based.k0 : List DK := [⟨[], [], [3], []⟩, ⟨[2, 23], [2], [], [2]⟩, ⟨[14, 18, 22], [], [23], []⟩, ⟨[19, 21], [], [22], []⟩, ⟨[20], [], [21], []⟩, ⟨[4], [], [20], []⟩, ⟨[0], [], [19], []⟩, ⟨[15, 17], [], [18], []⟩, ⟨[16], [], [17], []⟩, ⟨[4], [], [16], []⟩, ⟨[0], [], [15], []⟩, ⟨[0], [], [14], []⟩]
def call_based.k1 : List Nat := [0, 0, 0, 4, 14, 0, 0, 64, 224, 511, 1023, 2047]
def call_based.f (k : Nat) (a0 : ByteArray) : Option (ByteArray × ByteArray × ByteArray × Int × ByteArray × Bool) := ((call_split.f k a0).bind fun r1 => (if r1.2 = true then (if 0 ≤ wrap64 (r1.1 + 1) then (if wrap64 (r1.1 + 1) ≤ (a0.size : Int) then (if 0 ≤ wrap64 (r1.1 + 1) then (if wrap64 (r1.1 + 1) ≤ (a0.size : Int) then Option.some (a0, a0.extract 0 (wrap64 (r1.1 + 1)).toNat, a0.extract (wrap64 (r1.1 + 1)).toNat ((a0.size : Int)).toNat, 0, (⟨#[]⟩ : ByteArray), true) else Option.none) else Option.none) else Option.none) else Option.none) else Option.some ((⟨#[]⟩ : ByteArray), (⟨#[]⟩ : ByteArray), (⟨#[]⟩ : ByteArray), 0, (⟨#[]⟩ : ByteArray), false)))
theorem call_based.ok (k : Nat) (a0 : ByteArray) (r : ByteArray × ByteArray × ByteArray × Int × ByteArray × Bool) (h : call_based.f k a0 = some r) : Ct Tryz.prog B 74 [.str a0] (ofL []) (.tup [.agg [.str r.1, .str r.2.1, .str r.2.2.1, .int .i64 r.2.2.2.1, .str r.2.2.2.2.1], .bool r.2.2.2.2.2]) (ofL []) := by
  refine Ct.of (Y := (fam Tryz.f74 [] [] [] (fun r : ByteArray × ByteArray × ByteArray × Int × ByteArray × Bool => .tup [.agg [.str r.1, .str r.2.1, .str r.2.2.1, .int .i64 r.2.2.2.1, .str r.2.2.2.2.1], .bool r.2.2.2.2.2]) (fun r => []))) Tryz.func74 rfl Tryz.call74 rfl rfl ?_ r h
  unfold call_based.f
  refine RS.go ?_
  refine RT.call0 rfl (fun _ h => call_split.ok k a0 _ h) (LeL.eq rfl) (fun _ => rfl) (fun r1 => ?_)
  refine RS.go ?_
  refine RT.brBN rfl (fun c6 => ?_) (fun c6 => ?_)
  · refine RT.goto rfl ?_
    refine RS.draw rfl ?_
    refine RD.br rfl (fun c2 => ?_) (fun c2 => RD.none)
    refine RD.br rfl (fun c3 => ?_) (fun c3 => RD.none)
    refine RD.br rfl (fun c4 => ?_) (fun c4 => RD.none)
    refine RD.br rfl (fun c5 => ?_) (fun c5 => RD.none)
    refine RD.fin call_based.k0 call_based.k1 rfl rfl (by decide +kernel) ?_
    refine RS.go ?_
    exact RT.done rfl rfl (Le.tup (LeL.cons (Le.refl _) (LeL.cons (Le.refl _) (LeL.nil)))) trivial rfl (dom0 rfl)
  · exact RT.done rfl rfl (Le.tup (LeL.cons (Le.refl _) (LeL.cons (Le.refl _) (LeL.nil)))) trivial rfl (dom0 rfl)
def strings_Cut.f (a0 : ByteArray) (a1 : ByteArray) : Option (ByteArray × ByteArray × Bool) := if a0.size < 4294967281 then some ((⟨(Lib.cut a0.data.toList a1.data.toList).1.toArray⟩, ⟨(Lib.cut a0.data.toList a1.data.toList).2.1.toArray⟩, (Lib.cut a0.data.toList a1.data.toList).2.2) : ByteArray × ByteArray × Bool) else none
theorem strings_Cut.ok (a0 : ByteArray) (a1 : ByteArray) (r : ByteArray × ByteArray × Bool) (h : strings_Cut.f a0 a1 = some r) : Ct Tryz.prog B 75 [.str a0, .str a1] (ofL []) (.tup [.str r.1, .str r.2.1, .bool r.2.2]) (ofL []) := by
  unfold strings_Cut.f at h
  split at h
  case isFalse => cases h
  case isTrue c =>
  cases h
  refine Ct.lib Tryz.call75 rfl rfl fun g w hb => (((hbML hb).elim fun m hm => Tryz.strings_Cut a0 a1 m w c hm)).mono fun e w' ⟨he, hw⟩ => ⟨he, (by obtain ⟨n, rfl⟩ := hw; exact ⟨rfl, rfl, rfl, Nat.le_refl _, fun _ _ => rfl⟩)⟩

/-! ### call_isBegin: function 76 -/
def call_isBegin.f (k : Nat) (a0 : ByteArray) : Option (Bool) := ((call_isPlain.f k a0).bind fun r1 => (if r1.2 = true then (if r1.1 > 0 then Option.some (decide ((a0.size : Int) ≤ 4)) else Option.some false) else Option.some false))
theorem call_isBegin.ok (k : Nat) (a0 : ByteArray) (r : Bool) (h : call_isBegin.f k a0 = some r) : Ct Tryz.prog B 76 [.str a0] (ofL []) (.bool r) (ofL []) := by
  refine Ct.of (Y := (fam Tryz.f76 [] [] [] (fun r : Bool => .bool r) (fun r => []))) Tryz.func76 rfl Tryz.call76 rfl rfl ?_ r h
  unfold call_isBegin.f
  refine RS.go ?_
  refine RT.call0 rfl (fun _ h => call_isPlain.ok k a0 _ h) (LeL.eq rfl) (fun _ => rfl) (fun r1 => ?_)
  refine RS.go ?_
  refine RT.brB rfl (fun c3 => ?_) (fun c3 => ?_)
  · refine RT.brT rfl ?_
    refine RT.brT rfl ?_
    refine RT.br rfl (fun c2 => ?_) (fun c2 => ?_)
    · refine RT.brT rfl ?_
      refine RT.brT rfl ?_
      refine RT.brT rfl ?_
      exact RT.done rfl rfl (Le.refl _) trivial rfl (dom0 rfl)
    · refine RT.brF rfl ?_
      refine RT.brF rfl ?_
      refine RT.brF rfl ?_
      exact RT.done rfl rfl (Le.refl _) trivial rfl (dom0 rfl)
  · refine RT.brF rfl ?_
    refine RT.brF rfl ?_
    refine RT.brF rfl ?_
    refine RT.brF rfl ?_
    refine RT.brF rfl ?_
    refine RT.brF rfl ?_
    exact RT.done rfl rfl (Le.refl _) trivial rfl (dom0 rfl)
/-! ### call_tail: function 77 -/
def call_tail.f (k : Nat) (a0 : ByteArray) : Option (Int × ByteArray × Bool) := (if a0 = (⟨#[112]⟩ : ByteArray) then Option.some (3, (⟨#[]⟩ : ByteArray), true) else (if a0 = (⟨#[109]⟩ : ByteArray) then Option.some (4, (⟨#[]⟩ : ByteArray), true) else (if a0 = (⟨#[109, 109]⟩ : ByteArray) then Option.some (5, (⟨#[]⟩ : ByteArray), true) else (if a0 = (⟨#[97, 109]⟩ : ByteArray) then Option.some (6, (⟨#[]⟩ : ByteArray), true) else (if (a0.size : Int) = 1 then (if 0 < (a0.size : Int) then ((call_isDigit.f (bt a0 0)).bind fun r2 => (if r2 = true then Option.some (2, a0, true) else ((call_isBegin.f k a0).bind fun r3 => Option.some (1, a0, r3)))) else Option.none) else ((call_isBegin.f k a0).bind fun r5 => Option.some (1, a0, r5)))))))
theorem call_tail.ok (k : Nat) (a0 : ByteArray) (r : Int × ByteArray × Bool) (h : call_tail.f k a0 = some r) : Ct Tryz.prog B 77 [.str a0] (ofL []) (.tup [.int .i64 r.1, .str r.2.1, .bool r.2.2]) (ofL []) := by
  refine Ct.of (Y := (fam Tryz.f77 [] [] [] (fun r : Int × ByteArray × Bool => .tup [.int .i64 r.1, .str r.2.1, .bool r.2.2]) (fun r => []))) Tryz.func77 rfl Tryz.call77 rfl rfl ?_ r h
  unfold call_tail.f
  refine RS.go ?_
  refine RT.br rfl (fun c10 => ?_) (fun c10 => ?_)
  · exact RT.done rfl rfl (Le.tup (LeL.cons (Le.refl _) (LeL.cons (Le.refl _) (LeL.cons (Le.refl _) (LeL.nil))))) trivial rfl (dom0 rfl)
  · refine RT.br rfl (fun c9 => ?_) (fun c9 => ?_)
    · exact RT.done rfl rfl (Le.tup (LeL.cons (Le.refl _) (LeL.cons (Le.refl _) (LeL.cons (Le.refl _) (LeL.nil))))) trivial rfl (dom0 rfl)
    · refine RT.br rfl (fun c8 => ?_) (fun c8 => ?_)
      · exact RT.done rfl rfl (Le.tup (LeL.cons (Le.refl _) (LeL.cons (Le.refl _) (LeL.cons (Le.refl _) (LeL.nil))))) trivial rfl (dom0 rfl)
      · refine RT.br rfl (fun c7 => ?_) (fun c7 => ?_)
        · exact RT.done rfl rfl (Le.tup (LeL.cons (Le.refl _) (LeL.cons (Le.refl _) (LeL.cons (Le.refl _) (LeL.nil))))) trivial rfl (dom0 rfl)
        · refine RT.br rfl (fun c6 => ?_) (fun c6 => ?_)
          · refine RT.brT rfl ?_
            refine RT.brT rfl ?_
            refine RT.br rfl (fun c1 => ?_) (fun c1 => RT.none)
            refine RT.brT rfl ?_
            refine RT.call0 rfl (fun _ h => call_isDigit.ok (bt a0 0) _ h) (LeL.eq rfl) (fun _ => rfl) (fun r2 => ?_)
            refine RS.go ?_
            refine RT.brT rfl ?_
            refine RT.brB rfl (fun c4 => ?_) (fun c4 => ?_)
            · exact RT.done rfl rfl (Le.tup (LeL.cons (Le.refl _) (LeL.cons (Le.refl _) (LeL.cons (Le.refl _) (LeL.nil))))) trivial rfl (dom0 rfl)
            · refine RT.call0 rfl (fun _ h => call_isBegin.ok k a0 _ h) (LeL.eq rfl) (fun _ => rfl) (fun r3 => ?_)
              refine RS.go ?_
              exact RT.done rfl rfl (Le.tup (LeL.cons (Le.refl _) (LeL.cons (Le.refl _) (LeL.cons (Le.refl _) (LeL.nil))))) trivial rfl (dom0 rfl)
          · refine RT.brF rfl ?_
            refine RT.brF rfl ?_
            refine RT.brF rfl ?_
            refine RT.brF rfl ?_
            refine RT.call0 rfl (fun _ h => call_isBegin.ok k a0 _ h) (LeL.eq rfl) (fun _ => rfl) (fun r5 => ?_)
            refine RS.go ?_
            exact RT.done rfl rfl (Le.tup (LeL.cons (Le.refl _) (LeL.cons (Le.refl _) (LeL.cons (Le.refl _) (LeL.nil))))) trivial rfl (dom0 rfl)
/-! ### call_Parts: function 49 -/
def call_Parts.f (k : Nat) (a0 : ByteArray) : Option (ByteArray × ByteArray × ByteArray × Int × ByteArray × Bool) := (if (a0.size : Int) > 14 then Option.some ((⟨#[]⟩ : ByteArray), (⟨#[]⟩ : ByteArray), (⟨#[]⟩ : ByteArray), 0, (⟨#[]⟩ : ByteArray), false) else ((call_based.f k a0).bind fun r1 => (if r1.2.2.2.2.2 = true then Option.some (r1.1, r1.2.1, r1.2.2.1, r1.2.2.2.1, r1.2.2.2.2.1, true) else ((strings_Cut.f a0 (⟨#[47]⟩ : ByteArray)).bind fun r2 => (if r2.2.2 = true then ((call_based.f k r2.2.1).bind fun r3 => (if r3.2.2.2.2.2 = true then ((call_isBegin.f k r2.1).bind fun r4 => (if r4 = true then Option.some (r3.1, r3.2.1, r3.2.2.1, 1, r2.1, true) else ((call_based.f k r2.1).bind fun r5 => ((call_tail.f k r2.2.1).bind fun r6 => (if r5.2.2.2.2.2 = true then (if r6.2.2 = true then Option.some (r5.1, r5.2.1, r5.2.2.1, r6.1, r6.2.1, true) else Option.some ((⟨#[]⟩ : ByteArray), (⟨#[]⟩ : ByteArray), (⟨#[]⟩ : ByteArray), 0, (⟨#[]⟩ : ByteArray), false)) else Option.some ((⟨#[]⟩ : ByteArray), (⟨#[]⟩ : ByteArray), (⟨#[]⟩ : ByteArray), 0, (⟨#[]⟩ : ByteArray), false)))))) else ((call_based.f k r2.1).bind fun r10 => ((call_tail.f k r2.2.1).bind fun r11 => (if r10.2.2.2.2.2 = true then (if r11.2.2 = true then Option.some (r10.1, r10.2.1, r10.2.2.1, r11.1, r11.2.1, true) else Option.some ((⟨#[]⟩ : ByteArray), (⟨#[]⟩ : ByteArray), (⟨#[]⟩ : ByteArray), 0, (⟨#[]⟩ : ByteArray), false)) else Option.some ((⟨#[]⟩ : ByteArray), (⟨#[]⟩ : ByteArray), (⟨#[]⟩ : ByteArray), 0, (⟨#[]⟩ : ByteArray), false)))))) else Option.some ((⟨#[]⟩ : ByteArray), (⟨#[]⟩ : ByteArray), (⟨#[]⟩ : ByteArray), 0, (⟨#[]⟩ : ByteArray), false))))))
theorem call_Parts.ok (k : Nat) (a0 : ByteArray) (r : ByteArray × ByteArray × ByteArray × Int × ByteArray × Bool) (h : call_Parts.f k a0 = some r) : Ct Tryz.prog B 49 [.str a0] (ofL []) (.tup [.agg [.str r.1, .str r.2.1, .str r.2.2.1, .int .i64 r.2.2.2.1, .str r.2.2.2.2.1], .bool r.2.2.2.2.2]) (ofL []) := by
  refine Ct.of (Y := (fam Tryz.f49 [] [] [] (fun r : ByteArray × ByteArray × ByteArray × Int × ByteArray × Bool => .tup [.agg [.str r.1, .str r.2.1, .str r.2.2.1, .int .i64 r.2.2.2.1, .str r.2.2.2.2.1], .bool r.2.2.2.2.2]) (fun r => []))) Tryz.func49 rfl Tryz.call49 rfl rfl ?_ r h
  unfold call_Parts.f
  refine RS.go ?_
  refine RT.br rfl (fun c17 => ?_) (fun c17 => ?_)
  · exact RT.done rfl rfl (Le.tup (LeL.cons (Le.refl _) (LeL.cons (Le.refl _) (LeL.nil)))) trivial rfl (dom0 rfl)
  · refine RT.call0 rfl (fun _ h => call_based.ok k a0 _ h) (LeL.eq rfl) (fun _ => rfl) (fun r1 => ?_)
    refine RS.go ?_
    refine RT.brB rfl (fun c16 => ?_) (fun c16 => ?_)
    · exact RT.done rfl rfl (Le.tup (LeL.cons (Le.refl _) (LeL.cons (Le.refl _) (LeL.nil)))) trivial rfl (dom0 rfl)
    · refine RT.call0 rfl (fun _ h => strings_Cut.ok a0 (⟨#[47]⟩ : ByteArray) _ h) (LeL.eq rfl) (fun _ => rfl) (fun r2 => ?_)
      refine RS.go ?_
      refine RT.brBN rfl (fun c15 => ?_) (fun c15 => ?_)
      · refine RT.call0 rfl (fun _ h => call_based.ok k r2.2.1 _ h) (LeL.eq rfl) (fun _ => rfl) (fun r3 => ?_)
        refine RS.go ?_
        refine RT.brB rfl (fun c14 => ?_) (fun c14 => ?_)
        · refine RT.brT rfl ?_
          refine RT.call0 rfl (fun _ h => call_isBegin.ok k r2.1 _ h) (LeL.eq rfl) (fun _ => rfl) (fun r4 => ?_)
          refine RS.go ?_
          refine RT.brT rfl ?_
          refine RT.brB rfl (fun c9 => ?_) (fun c9 => ?_)
          · exact RT.done rfl rfl (Le.tup (LeL.cons (Le.refl _) (LeL.cons (Le.refl _) (LeL.nil)))) trivial rfl (dom0 rfl)
          · refine RT.call0 rfl (fun _ h => call_based.ok k r2.1 _ h) (LeL.eq rfl) (fun _ => rfl) (fun r5 => ?_)
            refine RS.go ?_
            refine RT.call0 rfl (fun _ h => call_tail.ok k r2.2.1 _ h) (LeL.eq rfl) (fun _ => rfl) (fun r6 => ?_)
            refine RS.go ?_
            refine RT.brBN rfl (fun c8 => ?_) (fun c8 => ?_)
            · refine RT.brF rfl ?_
              refine RT.brF rfl ?_
              refine RT.brBN rfl (fun c7 => ?_) (fun c7 => ?_)
              · exact RT.done rfl rfl (Le.tup (LeL.cons (Le.refl _) (LeL.cons (Le.refl _) (LeL.nil)))) trivial rfl (dom0 rfl)
              · exact RT.done rfl rfl (Le.tup (LeL.cons (Le.refl _) (LeL.cons (Le.refl _) (LeL.nil)))) trivial rfl (dom0 rfl)
            · refine RT.brT rfl ?_
              refine RT.brT rfl ?_
              refine RT.brT rfl ?_
              exact RT.done rfl rfl (Le.tup (LeL.cons (Le.refl _) (LeL.cons (Le.refl _) (LeL.nil)))) trivial rfl (dom0 rfl)
        · refine RT.brF rfl ?_
          refine RT.brF rfl ?_
          refine RT.brF rfl ?_
          refine RT.call0 rfl (fun _ h => call_based.ok k r2.1 _ h) (LeL.eq rfl) (fun _ => rfl) (fun r10 => ?_)
          refine RS.go ?_
          refine RT.call0 rfl (fun _ h => call_tail.ok k r2.2.1 _ h) (LeL.eq rfl) (fun _ => rfl) (fun r11 => ?_)
          refine RS.go ?_
          refine RT.brBN rfl (fun c13 => ?_) (fun c13 => ?_)
          · refine RT.brF rfl ?_
            refine RT.brF rfl ?_
            refine RT.brBN rfl (fun c12 => ?_) (fun c12 => ?_)
            · exact RT.done rfl rfl (Le.tup (LeL.cons (Le.refl _) (LeL.cons (Le.refl _) (LeL.nil)))) trivial rfl (dom0 rfl)
            · exact RT.done rfl rfl (Le.tup (LeL.cons (Le.refl _) (LeL.cons (Le.refl _) (LeL.nil)))) trivial rfl (dom0 rfl)
          · refine RT.brT rfl ?_
            refine RT.brT rfl ?_
            refine RT.brT rfl ?_
            exact RT.done rfl rfl (Le.tup (LeL.cons (Le.refl _) (LeL.cons (Le.refl _) (LeL.nil)))) trivial rfl (dom0 rfl)
      · exact RT.done rfl rfl (Le.tup (LeL.cons (Le.refl _) (LeL.cons (Le.refl _) (LeL.nil)))) trivial rfl (dom0 rfl)
/-! ### call_Apart: function 29 -/
def call_Apart.f (k : Nat) (a0 : ByteArray) : Option (ByteArray × ByteArray × ByteArray × Int × ByteArray × Int) := ((call_Parts.f k a0).bind fun r1 => (if r1.2.2.2.2.2 = true then Option.some (r1.1, r1.2.1, r1.2.2.1, r1.2.2.2.1, r1.2.2.2.2.1, 0) else Option.some ((⟨#[]⟩ : ByteArray), (⟨#[]⟩ : ByteArray), (⟨#[]⟩ : ByteArray), 0, (⟨#[]⟩ : ByteArray), 3)))
theorem call_Apart.ok (k : Nat) (a0 : ByteArray) (r : ByteArray × ByteArray × ByteArray × Int × ByteArray × Int) (h : call_Apart.f k a0 = some r) : Ct Tryz.prog B 29 [.str a0] (ofL []) (.tup [.agg [.str r.1, .str r.2.1, .str r.2.2.1, .int .i64 r.2.2.2.1, .str r.2.2.2.2.1], .int .i64 r.2.2.2.2.2]) (ofL []) := by
  refine Ct.of (Y := (fam Tryz.f29 [] [] [] (fun r : ByteArray × ByteArray × ByteArray × Int × ByteArray × Int => .tup [.agg [.str r.1, .str r.2.1, .str r.2.2.1, .int .i64 r.2.2.2.1, .str r.2.2.2.2.1], .int .i64 r.2.2.2.2.2]) (fun r => []))) Tryz.func29 rfl Tryz.call29 rfl rfl ?_ r h
  unfold call_Apart.f
  refine RS.go ?_
  refine RT.call0 rfl (fun _ h => call_Parts.ok k a0 _ h) (LeL.eq rfl) (fun _ => rfl) (fun r1 => ?_)
  refine RS.go ?_
  refine RT.brBN rfl (fun c2 => ?_) (fun c2 => ?_)
  · exact RT.done rfl rfl (Le.tup (LeL.cons (Le.refl _) (LeL.cons (Le.refl _) (LeL.nil)))) trivial rfl (dom0 rfl)
  · exact RT.done rfl rfl (Le.tup (LeL.cons (Le.refl _) (LeL.cons (Le.refl _) (LeL.nil)))) trivial rfl (dom0 rfl)
/-! ### place_Cosine: function 30 -/
def place_Cosine.f (k : Nat) (a0 : Int) : Option (Int × Int) := ((kit_Outside.f a0 (-1296000000) 1296000000).bind fun r1 => (if r1 = true then Option.some (0, 1) else ((place_cosine.f k a0).bind fun r2 => Option.some (r2, 0))))
theorem place_Cosine.ok (k : Nat) (a0 : Int) (r : Int × Int) (h : place_Cosine.f k a0 = some r) : Ct Tryz.prog B 30 [.int .i64 a0] (ofL []) (.tup [.int .i64 r.1, .int .i64 r.2]) (ofL []) := by
  refine Ct.of (Y := (fam Tryz.f30 [] [] [] (fun r : Int × Int => .tup [.int .i64 r.1, .int .i64 r.2]) (fun r => []))) Tryz.func30 rfl Tryz.call30 rfl rfl ?_ r h
  unfold place_Cosine.f
  refine RS.go ?_
  refine RT.call0 rfl (fun _ h => kit_Outside.ok a0 (-1296000000) 1296000000 _ h) (LeL.eq rfl) (fun _ => rfl) (fun r1 => ?_)
  refine RS.go ?_
  refine RT.brB rfl (fun c3 => ?_) (fun c3 => ?_)
  · exact RT.done rfl rfl (Le.tup (LeL.cons (Le.refl _) (LeL.cons (Le.refl _) (LeL.nil)))) trivial rfl (dom0 rfl)
  · refine RT.call0 rfl (fun _ h => place_cosine.ok k a0 _ h) (LeL.eq rfl) (fun _ => rfl) (fun r2 => ?_)
    refine RS.go ?_
    exact RT.done rfl rfl (Le.tup (LeL.cons (Le.refl _) (LeL.cons (Le.refl _) (LeL.nil)))) trivial rfl (dom0 rfl)
def strings_Split.f (a0 : ByteArray) (a1 : ByteArray) : Option (List ByteArray) := if a0.size < 4294967281 ∧ 1 ≤ a1.size then some (Lib.splitB a1 0 (Lib.countB a0 a1) a0) else none
theorem strings_Split.ok (a0 : ByteArray) (a1 : ByteArray) (r : List ByteArray) (h : strings_Split.f a0 a1 = some r) : Ct Tryz.prog B 95 [.str a0, .str a1] (ofL []) (sq eS r) (ofL []) := by
  unfold strings_Split.f at h
  split at h
  case isFalse => cases h
  case isTrue c =>
  cases h
  refine Ct.libS Tryz.call95 rfl fun g w hb => ?_
  obtain ⟨m, hm⟩ := hbML hb
  refine (Tryz.strings_Split a0 a1 m w c.1 hm c.2).mono fun e w' ⟨he, hw⟩ => ⟨_, he, ?_⟩
  subst hw
  have hl : (Lib.splitB a1 0 (Lib.countB a0 a1) a0).length = Lib.countB a0 a1 + 1 := Lib.splitB_all a1 c.2 0 _ a0 rfl
  exact newS hl

/-! ### kit_Words: function 78 -/
def kit_Words.l0 : Nat → List ByteArray → List ByteArray → Int → Int → Option ((List ByteArray) × Bool)
  | 0, _, _, _, _ => Option.none
  | k + 1, x4, x9, x10, x11 => (if x11 < x10 then (if 0 ≤ x11 then (if x11 < (x9.length : Int) then (if (rdE eS x9 x11) = (⟨#[]⟩ : ByteArray) then Option.some ([], false) else kit_Words.l0 k x4 x9 x10 (wrap64 (x11 + 1))) else Option.none) else Option.none) else Option.some (x4, true))
def kit_Words.f (k : Nat) (a0 : ByteArray) : Option ((List ByteArray) × Bool) := ((strings_Split.f a0 (⟨#[32]⟩ : ByteArray)).bind fun r1 => kit_Words.l0 k r1 r1 (r1.length : Int) 0)
theorem kit_Words.loops : ∀ k, (∀ (x4 : List ByteArray) (x9 : List ByteArray) (x10 : Int) (x11 : Int), RS (fam Tryz.f78 [] [] [] (fun r : (List ByteArray) × Bool => .tup [sq eS r.1, .bool r.2]) (fun r => [])) (Func.head Tryz.f78 0) ⟨ofT [(4, sq eS x4), (9, sq eS x9), (10, .int .i64 x10), (11, .int .i64 x11)], ofL []⟩ (kit_Words.l0 k x4 x9 x10 x11))
  | 0 => by intro _ _ _ _; simp only [kit_Words.l0]; exact RS.none
  | k + 1 => by
    have ih := kit_Words.loops k
    · intro x4 x9 x10 x11
      simp only [kit_Words.l0]
      refine RS.go ?_
      refine RT.br rfl (fun c5 => ?_) (fun c5 => ?_)
      · refine RT.br rfl (fun c2 => ?_) (fun c2 => RT.none)
        refine RT.br rfl (fun c3 => ?_) (fun c3 => RT.none)
        refine RT.br rfl (fun c4 => ?_) (fun c4 => ?_)
        · exact RT.done rfl rfl (Le.tup (LeL.cons (Le.nil _ _) (LeL.cons (Le.refl _) (LeL.nil)))) trivial rfl (dom0 rfl)
        · refine RT.goto rfl ?_
          refine RS.weak [(4, sq eS x4), (9, sq eS x9), (10, .int .i64 x10), (11, .int .i64 (wrap64 (x11 + 1)))] [] ⟨Le.eq (by first | rfl | simp), Le.eq (by first | rfl | simp), Le.eq (by first | rfl | simp), Le.eq (by first | rfl | simp), trivial⟩ trivial rfl (dom0 rfl) ?_
          exact ih x4 x9 x10 (wrap64 (x11 + 1)) 
      · exact RT.done rfl rfl (Le.tup (LeL.cons (Le.refl _) (LeL.cons (Le.refl _) (LeL.nil)))) trivial rfl (dom0 rfl)
theorem kit_Words.ok (k : Nat) (a0 : ByteArray) (r : (List ByteArray) × Bool) (h : kit_Words.f k a0 = some r) : Ct Tryz.prog B 78 [.str a0] (ofL []) (.tup [sq eS r.1, .bool r.2]) (ofL []) := by
  refine Ct.of (Y := (fam Tryz.f78 [] [] [] (fun r : (List ByteArray) × Bool => .tup [sq eS r.1, .bool r.2]) (fun r => []))) Tryz.func78 rfl Tryz.call78 rfl rfl ?_ r h
  unfold kit_Words.f
  refine RS.go ?_
  refine RT.call0 rfl (fun _ h => strings_Split.ok a0 (⟨#[32]⟩ : ByteArray) _ h) (LeL.eq rfl) (fun _ => rfl) (fun r1 => ?_)
  refine RS.go ?_
  refine RT.goto rfl ?_
  refine RS.weak [(4, sq eS r1), (9, sq eS r1), (10, .int .i64 (r1.length : Int)), (11, .int .i64 0)] [] ⟨Le.eq (by first | rfl | simp), Le.eq (by first | rfl | simp), Le.eq (by first | rfl | simp), Le.eq (by first | rfl | simp), trivial⟩ trivial rfl (dom0 rfl) ?_
  exact kit_Words.loops k r1 r1 (r1.length : Int) 0 
def strings_Fields.f (a0 : ByteArray) : Option (List ByteArray) := if a0.size < 4294967281 ∧ asciiT a0 = true then some ((Lib.fields a0.data.toList).map fun l => ⟨l.toArray⟩) else none
theorem strings_Fields.ok (a0 : ByteArray) (r : List ByteArray) (h : strings_Fields.f a0 = some r) : Ct Tryz.prog B 112 [.str a0] (ofL []) (sq eS r) (ofL []) := by
  unfold strings_Fields.f at h
  split at h
  case isFalse => cases h
  case isTrue c =>
  cases h
  refine Ct.libS Tryz.call112 rfl fun g w hb => ?_
  refine (Tryz.strings_Fields a0 w c.1 (asciiT_at c.2) (hbAsc hb)).mono fun e w' ⟨he, hw⟩ => ⟨_, he, ?_⟩
  subst hw
  have key : ∀ T, NewSl eS ((Lib.fields a0.data.toList).map fun l => (⟨l.toArray⟩ : ByteArray)) w (.slice (some ⟨w.heap.size, 0, none⟩) (Lib.fields a0.data.toList).length (Lib.fields a0.data.toList).length) (w.alloc (.cells ((Lib.fields a0.data.toList).map fun l => Value.string ⟨l.toArray⟩).toArray T)) := fun T => by
    have := newS (w := w) (T := T) (l := (Lib.fields a0.data.toList).map fun l => (⟨l.toArray⟩ : ByteArray)) (n := (Lib.fields a0.data.toList).length) (by simp)
    rwa [List.map_map] at this
  exact key _

/-! ### key_Codes: function 96 -/
def key_Codes.k0 : List DK := [⟨[23], [], [2], []⟩, ⟨[11, 22], [23, 2], [23], [2]⟩, ⟨[21], [22], [22], []⟩, ⟨[15, 20], [], [21], []⟩, ⟨[19], [], [20], []⟩, ⟨[16, 18], [], [19], []⟩, ⟨[17], [], [18], []⟩, ⟨[3], [], [17], []⟩, ⟨[1], [], [16], []⟩, ⟨[14], [], [15], []⟩, ⟨[12, 13], [], [14], []⟩, ⟨[3], [], [13], []⟩, ⟨[1], [], [12], []⟩, ⟨[2], [], [11], []⟩]
def key_Codes.k1 : List Nat := [0, 0, 0, 6, 14, 0, 0, 64, 224, 480, 1022, 2046, 4095, 8191]
def key_Codes.l0 : Nat → List ByteArray → Int → List (ByteArray × ByteArray) → Option ((List (ByteArray × ByteArray)))
  | 0, _, _, _ => Option.none
  | k + 1, x1, x3, o2 => (if x3 < (x1.length : Int) then (if 0 ≤ x3 then (if x3 < (x1.length : Int) then (if 0 ≤ wrap64 (x3 + 1) then (if wrap64 (x3 + 1) < (x1.length : Int) then (if o2.length + [((rdE eS x1 x3), (rdE eS x1 (wrap64 (x3 + 1))))].length ≤ 549755813888 then key_Codes.l0 k x1 (wrap64 (x3 + 2)) (o2 ++ [((rdE eS x1 x3), (rdE eS x1 (wrap64 (x3 + 1))))]) else Option.none) else Option.none) else Option.none) else Option.none) else Option.none) else Option.some o2)
def key_Codes.f (k : Nat) : Option ((List (ByteArray × ByteArray))) := ((strings_Fields.f str_1).bind fun r1 => key_Codes.l0 k r1 0 [])
theorem key_Codes.loops : ∀ k, (∀ (x1 : List ByteArray) (x3 : Int) (o2 : List (ByteArray × ByteArray)), RS (fam Tryz.f96 [] [] [] (fun r : (List (ByteArray × ByteArray)) => sq e_SS r) (fun r => [])) (Func.head Tryz.f96 0) ⟨ofT [(1, sq eS x1), (2, .osl 2 e_SS.w 0 o2.length o2.length), (3, .int .i64 x3)], ofL [(2, bufE e_SS o2)]⟩ (key_Codes.l0 k x1 x3 o2))
  | 0 => by intro _ _ _; simp only [key_Codes.l0]; exact RS.none
  | k + 1 => by
    have ih := key_Codes.loops k
    · intro x1 x3 o2
      simp only [key_Codes.l0]
      refine RS.go ?_
      refine RT.br rfl (fun c7 => ?_) (fun c7 => ?_)
      · refine RT.goto rfl ?_
        refine RS.draw rfl ?_
        refine RD.br rfl (fun c2 => ?_) (fun c2 => RD.none)
        refine RD.br rfl (fun c3 => ?_) (fun c3 => RD.none)
        refine RD.br rfl (fun c4 => ?_) (fun c4 => RD.none)
        refine RD.br rfl (fun c5 => ?_) (fun c5 => RD.none)
        refine RD.req rfl ⟨by first | rfl | simp, by first | exact Nat.le_refl _ | simp⟩ ?_
        refine RD.not rfl (by simp <;> omega) ?_
        refine RD.br rfl (fun c6 => ?_) (fun _ => RD.none)
        refine RD.fin key_Codes.k0 key_Codes.k1 rfl rfl (by decide +kernel) ?_
        refine RS.obj 2 (bufE e_SS (o2 ++ [((rdE eS x1 x3), (rdE eS x1 (wrap64 (x3 + 1))))])) ⟨_, rfl, LeO.app (l := o2) (m := [((rdE eS x1 x3), (rdE eS x1 (wrap64 (x3 + 1))))]) (cells_of rfl)⟩ ?_
        refine RS.slot 2 (.osl 2 e_SS.w 0 (o2 ++ [((rdE eS x1 x3), (rdE eS x1 (wrap64 (x3 + 1))))]).length (o2 ++ [((rdE eS x1 x3), (rdE eS x1 (wrap64 (x3 + 1))))]).length) (Le.oslN rfl (by simp)) ?_
        refine RS.slot 23 (.osl 2 e_SS.w 0 (o2 ++ [((rdE eS x1 x3), (rdE eS x1 (wrap64 (x3 + 1))))]).length (o2 ++ [((rdE eS x1 x3), (rdE eS x1 (wrap64 (x3 + 1))))]).length) (Le.oslN rfl (by simp)) ?_
        refine RS.go ?_
        refine RT.goto rfl ?_
        refine RS.weak [(1, sq eS x1), (2, .osl 2 e_SS.w 0 (o2 ++ [((rdE eS x1 x3), (rdE eS x1 (wrap64 (x3 + 1))))]).length (o2 ++ [((rdE eS x1 x3), (rdE eS x1 (wrap64 (x3 + 1))))]).length), (3, .int .i64 (wrap64 (x3 + 2)))] [(2, bufE e_SS (o2 ++ [((rdE eS x1 x3), (rdE eS x1 (wrap64 (x3 + 1))))]))] ⟨Le.eq (by first | rfl | simp), (by first | exact Le.oslN rfl (by first | rfl | simp) | exact Le.refl _ | exact Le.eq (by first | rfl | simp)), Le.eq (by first | rfl | simp), trivial⟩ ⟨⟨_, rfl, LeO.refl _⟩, trivial⟩ rfl (dom0 rfl) ?_
        exact ih x1 (wrap64 (x3 + 2)) (o2 ++ [((rdE eS x1 x3), (rdE eS x1 (wrap64 (x3 + 1))))]) 
      · refine RT.freeze 2 _ _ _ [(0, sq e_SS o2)] [] rfl rfl ⟨.inr ⟨_, rfl, by first | exact Nat.le_refl _ | simp, rfl⟩, trivial⟩ trivial rfl (dom0 rfl) ?_
        exact RT.done rfl rfl (Le.refl _) trivial rfl (dom0 rfl)
theorem key_Codes.ok (k : Nat) (r : (List (ByteArray × ByteArray))) (h : key_Codes.f k  = some r) : Ct Tryz.prog B 96 [] (ofL []) (sq e_SS r) (ofL []) := by
  refine Ct.of (Y := (fam Tryz.f96 [] [] [] (fun r : (List (ByteArray × ByteArray)) => sq e_SS r) (fun r => []))) Tryz.func96 rfl Tryz.call96 rfl rfl ?_ r h
  unfold key_Codes.f
  refine RS.go ?_
  refine RT.call0 rfl (fun _ h => strings_Fields.ok str_1 _ h) (LeL.eq rfl) (fun _ => rfl) (fun r1 => ?_)
  refine RS.go ?_
  refine RT.goto rfl ?_
  refine RS.ghost 2 2 e_SS.w (rep e_SS []) rfl rfl ?_
  refine RS.weak [(1, sq eS r1), (2, .osl 2 e_SS.w 0 ([] : List (ByteArray × ByteArray)).length ([] : List (ByteArray × ByteArray)).length), (3, .int .i64 0)] [(2, bufE e_SS ([] : List (ByteArray × ByteArray)))] ⟨Le.eq (by first | rfl | simp), (by first | exact Le.oslN rfl (by first | rfl | simp) | exact Le.refl _ | exact Le.eq (by first | rfl | simp)), Le.eq (by first | rfl | simp), trivial⟩ ⟨⟨_, rfl, LeO.refl _⟩, trivial⟩ rfl (dom0 rfl) ?_
  exact key_Codes.loops k r1 0 [] 
/-! ### key_byBytes: function 79 -/
def key_byBytes.k0 : List DK := [⟨[11, 14, 16], [4], [], [4]⟩, ⟨[15], [3], [16], []⟩, ⟨[3], [3], [15], []⟩, ⟨[13], [], [14], []⟩, ⟨[12], [3], [13], []⟩, ⟨[3], [3], [12], []⟩, ⟨[1], [], [11], []⟩]
def key_byBytes.k1 : List Nat := [0, 0, 2, 6, 0, 16, 63]
def key_byBytes.l0 : Nat → List (ByteArray × ByteArray) → Int → Int → List (Int × ByteArray) → Option ((List (Int × ByteArray)))
  | 0, _, _, _, _ => Option.none
  | k + 1, x5, x6, x7, o4 => (if x7 < x6 then (if 0 ≤ x7 then (if x7 < (x5.length : Int) then (if 0 < (((rdE e_SS x5 x7).1).size : Int) then key_byBytes.l0 k x5 x6 (wrap64 (x7 + 1)) (mput o4 (bt ((rdE e_SS x5 x7).1) 0) ((rdE e_SS x5 x7).2)) else Option.none) else Option.none) else Option.none) else Option.some o4)
def key_byBytes.f (k : Nat) : Option ((List (Int × ByteArray))) := ((key_Codes.f k ).bind fun r1 => key_byBytes.l0 k r1 (r1.length : Int) 0 ([] : List (Int × ByteArray)))
theorem key_byBytes.loops : ∀ k, (∀ (x5 : List (ByteArray × ByteArray)) (x6 : Int) (x7 : Int) (o4 : List (Int × ByteArray)), RS (fam Tryz.f79 [] [] [] (fun r : (List (Int × ByteArray)) => .omap 4) (fun r => [(4, mapE (KL.ints .u8) (ByteArray.empty : ByteArray) AV.str r)])) (Func.head Tryz.f79 0) ⟨ofT [(1, .omap 4), (5, sq e_SS x5), (6, .int .i64 x6), (7, .int .i64 x7)], ofL [(4, mapE (KL.ints .u8) (ByteArray.empty : ByteArray) AV.str o4)]⟩ (key_byBytes.l0 k x5 x6 x7 o4))
  | 0 => by intro _ _ _ _; simp only [key_byBytes.l0]; exact RS.none
  | k + 1 => by
    have ih := key_byBytes.loops k
    · intro x5 x6 x7 o4
      simp only [key_byBytes.l0]
      refine RS.go ?_
      refine RT.br rfl (fun c5 => ?_) (fun c5 => ?_)
      · refine RT.br rfl (fun c2 => ?_) (fun c2 => RT.none)
        refine RT.br rfl (fun c3 => ?_) (fun c3 => RT.none)
        refine RT.goto rfl ?_
        refine RS.draw rfl ?_
        refine RD.brT rfl ?_
        refine RD.br rfl (fun c4 => ?_) (fun c4 => RD.none)
        refine RD.fin key_byBytes.k0 key_byBytes.k1 rfl rfl (by decide +kernel) ?_
        refine RS.obj 4 (mapE (KL.ints .u8) (ByteArray.empty : ByteArray) AV.str (mput o4 (bt ((rdE e_SS x5 x7).1) 0) ((rdE e_SS x5 x7).2))) ⟨_, rfl, LeO.putI⟩ ?_
        refine RS.go ?_
        refine RT.goto rfl ?_
        refine RS.weak [(1, .omap 4), (5, sq e_SS x5), (6, .int .i64 x6), (7, .int .i64 (wrap64 (x7 + 1)))] [(4, mapE (KL.ints .u8) (ByteArray.empty : ByteArray) AV.str (mput o4 (bt ((rdE e_SS x5 x7).1) 0) ((rdE e_SS x5 x7).2)))] ⟨Le.eq (by first | rfl | simp), Le.eq (by first | rfl | simp), Le.eq (by first | rfl | simp), Le.eq (by first | rfl | simp), trivial⟩ ⟨⟨_, rfl, LeO.refl _⟩, trivial⟩ rfl (dom0 rfl) ?_
        exact ih x5 x6 (wrap64 (x7 + 1)) (mput o4 (bt ((rdE e_SS x5 x7).1) 0) ((rdE e_SS x5 x7).2)) 
      · exact RT.done rfl rfl (Le.refl _) ⟨⟨_, rfl, LeO.refl _⟩, trivial⟩ rfl (dom0 rfl)
theorem key_byBytes.ok (k : Nat) (r : (List (Int × ByteArray))) (h : key_byBytes.f k  = some r) : Ct Tryz.prog B 79 [] (ofL []) (.omap 4) (ofL [(4, mapE (KL.ints .u8) (ByteArray.empty : ByteArray) AV.str r)]) := by
  refine Ct.of (Y := (fam Tryz.f79 [] [] [] (fun r : (List (Int × ByteArray)) => .omap 4) (fun r => [(4, mapE (KL.ints .u8) (ByteArray.empty : ByteArray) AV.str r)]))) Tryz.func79 rfl Tryz.call79 rfl rfl ?_ r h
  unfold key_byBytes.f
  refine RS.go ?_
  refine RT.call0 rfl (fun _ h => key_Codes.ok k  _ h) (LeL.eq rfl) (fun _ => rfl) (fun r1 => ?_)
  refine RS.go ?_
  refine RT.goto rfl ?_
  refine RS.weak [(1, .omap 4), (5, sq e_SS r1), (6, .int .i64 (r1.length : Int)), (7, .int .i64 0)] [(4, mapE (KL.ints .u8) (ByteArray.empty : ByteArray) AV.str ([] : List (Int × ByteArray)))] ⟨Le.eq (by first | rfl | simp), Le.eq (by first | rfl | simp), Le.eq (by first | rfl | simp), Le.eq (by first | rfl | simp), trivial⟩ ⟨⟨_, rfl, LeO.refl _⟩, trivial⟩ rfl (dom0 rfl) ?_
  exact key_byBytes.loops k r1 (r1.length : Int) 0 ([] : List (Int × ByteArray)) 
/-! ### key_CheckSaid: function 51 -/
mutual
def key_CheckSaid.l1 : Nat → List ByteArray → Int → Int → List (Int × ByteArray) → Int → Option (Int)
  | 0, _, _, _, _, _ => Option.none
  | k + 1, x20, x21, x22, o19, x28b => (if x28b < ((rdE eS x20 x22).size : Int) then (if 0 ≤ x28b then (if x28b < ((rdE eS x20 x22).size : Int) then (if (mget (ByteArray.empty : ByteArray) o19 (bt (rdE eS x20 x22) x28b)) = (⟨#[]⟩ : ByteArray) then Option.some 3 else key_CheckSaid.l1 k x20 x21 x22 o19 (wrap64 (x28b + 1))) else Option.none) else Option.none) else key_CheckSaid.l0 k x20 x21 (wrap64 (x22 + 1)) o19)
def key_CheckSaid.l0 : Nat → List ByteArray → Int → Int → List (Int × ByteArray) → Option (Int)
  | 0, _, _, _, _ => Option.none
  | k + 1, x20, x21, x22, o19 => (if x22 < x21 then (if 0 ≤ x22 then (if x22 < (x20.length : Int) then key_CheckSaid.l1 k x20 x21 x22 o19 0 else Option.none) else Option.none) else Option.some 0)
end
def key_CheckSaid.f (k : Nat) (a0 : ByteArray) : Option (Int) := (if (a0.size : Int) > 500 then Option.some 2 else ((kit_Words.f k a0).bind fun r1 => (if r1.2 = true then ((key_byBytes.f k ).bind fun r2 => key_CheckSaid.l0 k r1.1 (r1.1.length : Int) 0 r2) else Option.some 3)))
theorem key_CheckSaid.loops : ∀ k, (∀ (x20 : List ByteArray) (x21 : Int) (x22 : Int) (o19 : List (Int × ByteArray)) (x28b : Int), RS (fam Tryz.f51 [] [] [] (fun r : Int => .int .i64 r) (fun r => [])) (Func.head Tryz.f51 1) ⟨ofT [(5, .omap 19), (7, .str (rdE eS x20 x22)), (20, sq eS x20), (21, .int .i64 x21), (22, .int .i64 x22), (27, .int .i64 ((rdE eS x20 x22).size : Int)), (28, .int .i64 x28b)], ofL [(19, mapE (KL.ints .u8) (ByteArray.empty : ByteArray) AV.str o19)]⟩ (key_CheckSaid.l1 k x20 x21 x22 o19 x28b)) ∧ (∀ (x20 : List ByteArray) (x21 : Int) (x22 : Int) (o19 : List (Int × ByteArray)), RS (fam Tryz.f51 [] [] [] (fun r : Int => .int .i64 r) (fun r => [])) (Func.head Tryz.f51 0) ⟨ofT [(5, .omap 19), (20, sq eS x20), (21, .int .i64 x21), (22, .int .i64 x22)], ofL [(19, mapE (KL.ints .u8) (ByteArray.empty : ByteArray) AV.str o19)]⟩ (key_CheckSaid.l0 k x20 x21 x22 o19))
  | 0 => ⟨by intro _ _ _ _ _; simp only [key_CheckSaid.l1]; exact RS.none, by intro _ _ _ _; simp only [key_CheckSaid.l0]; exact RS.none⟩
  | k + 1 => by
    have ih := key_CheckSaid.loops k
    refine ⟨?_, ?_⟩
    · intro x20 x21 x22 o19 x28b
      simp only [key_CheckSaid.l1]
      refine RS.go ?_
      refine RT.br rfl (fun c8 => ?_) (fun c8 => ?_)
      · refine RT.br rfl (fun c5 => ?_) (fun c5 => RT.none)
        refine RT.br rfl (fun c6 => ?_) (fun c6 => RT.none)
        refine RT.req rfl (congrArg AV.str (map_end (l := o19) (d := (ByteArray.empty : ByteArray)))) ?_
        refine RT.br rfl (fun c7 => ?_) (fun c7 => ?_)
        · exact RT.done rfl rfl (Le.refl _) trivial rfl (dom0 rfl)
        · refine RT.goto rfl ?_
          refine RS.weak [(5, .omap 19), (7, .str (rdE eS x20 x22)), (20, sq eS x20), (21, .int .i64 x21), (22, .int .i64 x22), (27, .int .i64 ((rdE eS x20 x22).size : Int)), (28, .int .i64 (wrap64 (x28b + 1)))] [(19, mapE (KL.ints .u8) (ByteArray.empty : ByteArray) AV.str o19)] ⟨Le.eq (by first | rfl | simp), Le.eq (by first | rfl | simp), Le.eq (by first | rfl | simp), Le.eq (by first | rfl | simp), Le.eq (by first | rfl | simp), Le.eq (by first | rfl | simp), Le.eq (by first | rfl | simp), trivial⟩ ⟨⟨_, rfl, LeO.refl _⟩, trivial⟩ rfl (dom0 rfl) ?_
          exact ih.1 x20 x21 x22 o19 (wrap64 (x28b + 1)) 
      · refine RT.goto rfl ?_
        refine RS.weak [(5, .omap 19), (20, sq eS x20), (21, .int .i64 x21), (22, .int .i64 (wrap64 (x22 + 1)))] [(19, mapE (KL.ints .u8) (ByteArray.empty : ByteArray) AV.str o19)] ⟨Le.eq (by first | rfl | simp), Le.eq (by first | rfl | simp), Le.eq (by first | rfl | simp), Le.eq (by first | rfl | simp), trivial⟩ ⟨⟨_, rfl, LeO.refl _⟩, trivial⟩ rfl (dom0 rfl) ?_
        exact ih.2 x20 x21 (wrap64 (x22 + 1)) o19 
    · intro x20 x21 x22 o19
      simp only [key_CheckSaid.l0]
      refine RS.go ?_
      refine RT.br rfl (fun c9 => ?_) (fun c9 => ?_)
      · refine RT.br rfl (fun c3 => ?_) (fun c3 => RT.none)
        refine RT.br rfl (fun c4 => ?_) (fun c4 => RT.none)
        refine RT.goto rfl ?_
        refine RS.weak [(5, .omap 19), (7, .str (rdE eS x20 x22)), (20, sq eS x20), (21, .int .i64 x21), (22, .int .i64 x22), (27, .int .i64 ((rdE eS x20 x22).size : Int)), (28, .int .i64 0)] [(19, mapE (KL.ints .u8) (ByteArray.empty : ByteArray) AV.str o19)] ⟨Le.eq (by first | rfl | simp), Le.eq (by first | rfl | simp), Le.eq (by first | rfl | simp), Le.eq (by first | rfl | simp), Le.eq (by first | rfl | simp), Le.eq (by first | rfl | simp), Le.eq (by first | rfl | simp), trivial⟩ ⟨⟨_, rfl, LeO.refl _⟩, trivial⟩ rfl (dom0 rfl) ?_
        exact ih.1 x20 x21 x22 o19 0 
      · exact RT.done rfl rfl (Le.refl _) trivial rfl (dom0 rfl)
theorem key_CheckSaid.ok (k : Nat) (a0 : ByteArray) (r : Int) (h : key_CheckSaid.f k a0 = some r) : Ct Tryz.prog B 51 [.str a0] (ofL []) (.int .i64 r) (ofL []) := by
  refine Ct.of (Y := (fam Tryz.f51 [] [] [] (fun r : Int => .int .i64 r) (fun r => []))) Tryz.func51 rfl Tryz.call51 rfl rfl ?_ r h
  unfold key_CheckSaid.f
  refine RS.go ?_
  refine RT.br rfl (fun c11 => ?_) (fun c11 => ?_)
  · exact RT.done rfl rfl (Le.refl _) trivial rfl (dom0 rfl)
  · refine RT.call0 rfl (fun _ h => kit_Words.ok k a0 _ h) (LeL.eq rfl) (fun _ => rfl) (fun r1 => ?_)
    refine RS.go ?_
    refine RT.brBN rfl (fun c10 => ?_) (fun c10 => ?_)
    · refine RT.call rfl (fun _ h => key_byBytes.ok k  _ h) (fun i => bif Nat.beq i 4 then 19 else i) (LeL.eq rfl) trivial (fun _ => rfl) (fun r2 => ?_)
      refine RS.go ?_
      refine RT.goto rfl ?_
      refine RS.weak [(5, .omap 19), (20, sq eS r1.1), (21, .int .i64 (r1.1.length : Int)), (22, .int .i64 0)] [(19, mapE (KL.ints .u8) (ByteArray.empty : ByteArray) AV.str r2)] ⟨Le.eq (by first | rfl | simp), Le.eq (by first | rfl | simp), Le.eq (by first | rfl | simp), Le.eq (by first | rfl | simp), trivial⟩ ⟨⟨_, rfl, LeO.refl _⟩, trivial⟩ rfl (dom0 rfl) ?_
      exact (key_CheckSaid.loops k).2 r1.1 (r1.1.length : Int) 0 r2 
    · exact RT.done rfl rfl (Le.refl _) trivial rfl (dom0 rfl)
/-! ### key_words: function 80 -/
mutual
def key_words.l1 : Nat → List ByteArray → Int → Int → List (List ByteArray) → List (Int × ByteArray) → Int → List ByteArray → Option ((List (List ByteArray)))
  | 0, _, _, _, _, _, _, _ => Option.none
  | k + 1, x11, x12, x13, o4, o9, x19b, o7b => (if x19b < ((rdE eS x11 x13).size : Int) then (if 0 ≤ x19b then (if x19b < ((rdE eS x11 x13).size : Int) then (if o7b.length + 1 ≤ 549755813888 then key_words.l1 k x11 x12 x13 o4 o9 (wrap64 (x19b + 1)) (o7b ++ [(mget (ByteArray.empty : ByteArray) o9 (bt (rdE eS x11 x13) x19b))]) else Option.none) else Option.none) else Option.none) else (if o4.length + 1 ≤ 549755813888 then key_words.l0 k x11 x12 (wrap64 (x13 + 1)) (o4 ++ [o7b]) o9 else Option.none))
def key_words.l0 : Nat → List ByteArray → Int → Int → List (List ByteArray) → List (Int × ByteArray) → Option ((List (List ByteArray)))
  | 0, _, _, _, _, _ => Option.none
  | k + 1, x11, x12, x13, o4, o9 => (if x13 < x12 then (if 0 ≤ x13 then (if x13 < (x11.length : Int) then key_words.l1 k x11 x12 x13 o4 o9 0 [] else Option.none) else Option.none) else Option.some o4)
end
def key_words.f (k : Nat) (a0 : ByteArray) : Option ((List (List ByteArray))) := ((key_byBytes.f k ).bind fun r1 => ((strings_Split.f a0 (⟨#[32]⟩ : ByteArray)).bind fun r2 => key_words.l0 k r2 (r2.length : Int) 0 [] r1))
theorem key_words.loops : ∀ k, (∀ (x11 : List ByteArray) (x12 : Int) (x13 : Int) (o4 : List (List ByteArray)) (o9 : List (Int × ByteArray)) (x19b : Int) (o7b : List ByteArray), RS (fam Tryz.f80 [12] [] [] (fun r : (List (List ByteArray)) => sq e_L r) (fun r => [])) (Func.head Tryz.f80 1) ⟨ofT [(3, .omap 9), (4, .osl 4 e_L.w 0 o4.length o4.length), (6, .str (rdE eS x11 x13)), (7, .osl 7 eS.w 0 o7b.length o7b.length), (11, sq eS x11), (12, .int .i64 x12), (13, .int .i64 x13), (18, .int .i64 ((rdE eS x11 x13).size : Int)), (19, .int .i64 x19b)], ofL [(4, bufE e_L o4), (7, bufE eS o7b), (9, mapE (KL.ints .u8) (ByteArray.empty : ByteArray) AV.str o9)]⟩ (key_words.l1 k x11 x12 x13 o4 o9 x19b o7b)) ∧ (∀ (x11 : List ByteArray) (x12 : Int) (x13 : Int) (o4 : List (List ByteArray)) (o9 : List (Int × ByteArray)), RS (fam Tryz.f80 [12] [] [] (fun r : (List (List ByteArray)) => sq e_L r) (fun r => [])) (Func.head Tryz.f80 0) ⟨ofT [(3, .omap 9), (4, .osl 4 e_L.w 0 o4.length o4.length), (11, sq eS x11), (12, .int .i64 x12), (13, .int .i64 x13)], ofL [(4, bufE e_L o4), (9, mapE (KL.ints .u8) (ByteArray.empty : ByteArray) AV.str o9)]⟩ (key_words.l0 k x11 x12 x13 o4 o9))
  | 0 => ⟨by intro _ _ _ _ _ _ _; simp only [key_words.l1]; exact RS.none, by intro _ _ _ _ _; simp only [key_words.l0]; exact RS.none⟩
  | k + 1 => by
    have ih := key_words.loops k
    refine ⟨?_, ?_⟩
    · intro x11 x12 x13 o4 o9 x19b o7b
      simp only [key_words.l1]
      refine RS.go ?_
      refine RT.br rfl (fun c9 => ?_) (fun c9 => ?_)
      · refine RT.br rfl (fun c5 => ?_) (fun c5 => RT.none)
        refine RT.br rfl (fun c6 => ?_) (fun c6 => RT.none)
        refine RT.req rfl (congrArg AV.str (map_end (l := o9) (d := (ByteArray.empty : ByteArray)))) ?_
        refine RT.goto rfl ?_
        refine RS.slot 28 (sq eS [(mget (ByteArray.empty : ByteArray) o9 (bt (rdE eS x11 x13) x19b))]) (Le.lit (E := eS) (l := [(mget (ByteArray.empty : ByteArray) o9 (bt (rdE eS x11 x13) x19b))]) (cells_of rfl)) ?_
        refine RS.go ?_
        refine RT.req rfl ⟨by first | rfl | simp, by first | exact Nat.le_refl _ | simp⟩ ?_
        refine RT.not rfl (by simp <;> omega) ?_
        refine RT.br rfl (fun c7 => ?_) (fun _ => RT.none)
        refine RT.goto rfl ?_
        refine RS.obj 7 (bufE eS (o7b ++ [(mget (ByteArray.empty : ByteArray) o9 (bt (rdE eS x11 x13) x19b))])) ⟨_, rfl, LeO.app (l := o7b) (m := [(mget (ByteArray.empty : ByteArray) o9 (bt (rdE eS x11 x13) x19b))]) fun _ _ _ _ => rfl⟩ ?_
        refine RS.slot 29 (.osl 7 eS.w 0 (o7b ++ [(mget (ByteArray.empty : ByteArray) o9 (bt (rdE eS x11 x13) x19b))]).length (o7b ++ [(mget (ByteArray.empty : ByteArray) o9 (bt (rdE eS x11 x13) x19b))]).length) (by first | exact Le.oslN rfl (by simp) | exact Le.trans (y := .osl 7 eS.w 0 (o7b.length + 1) (o7b.length + 1)) (Le.refl _) (Le.oslN rfl (by simp))) ?_
        refine RS.go ?_
        refine RT.goto rfl ?_
        refine RS.weak [(3, .omap 9), (4, .osl 4 e_L.w 0 o4.length o4.length), (6, .str (rdE eS x11 x13)), (7, .osl 7 eS.w 0 (o7b ++ [(mget (ByteArray.empty : ByteArray) o9 (bt (rdE eS x11 x13) x19b))]).length (o7b ++ [(mget (ByteArray.empty : ByteArray) o9 (bt (rdE eS x11 x13) x19b))]).length), (11, sq eS x11), (12, .int .i64 x12), (13, .int .i64 x13), (18, .int .i64 ((rdE eS x11 x13).size : Int)), (19, .int .i64 (wrap64 (x19b + 1)))] [(4, bufE e_L o4), (7, bufE eS (o7b ++ [(mget (ByteArray.empty : ByteArray) o9 (bt (rdE eS x11 x13) x19b))])), (9, mapE (KL.ints .u8) (ByteArray.empty : ByteArray) AV.str o9)] ⟨Le.eq (by first | rfl | simp), (by first | exact Le.oslN rfl (by first | rfl | simp) | exact Le.refl _ | exact Le.eq (by first | rfl | simp)), Le.eq (by first | rfl | simp), (by first | exact Le.oslN rfl (by first | rfl | simp) | exact Le.refl _ | exact Le.eq (by first | rfl | simp)), Le.eq (by first | rfl | simp), Le.eq (by first | rfl | simp), Le.eq (by first | rfl | simp), Le.eq (by first | rfl | simp), Le.eq (by first | rfl | simp), trivial⟩ ⟨⟨_, rfl, LeO.refl _⟩, ⟨_, rfl, LeO.refl _⟩, ⟨_, rfl, LeO.refl _⟩, trivial⟩ rfl (dom0 rfl) ?_
        exact ih.1 x11 x12 x13 o4 o9 (wrap64 (x19b + 1)) (o7b ++ [(mget (ByteArray.empty : ByteArray) o9 (bt (rdE eS x11 x13) x19b))]) 
      · refine RT.goto rfl ?_
        refine RS.freeze 7 _ _ _ [(3, .omap 9), (4, .osl 4 e_L.w 0 o4.length o4.length), (7, sq eS o7b), (11, sq eS x11), (12, .int .i64 x12), (13, .int .i64 x13)] [(4, bufE e_L o4), (9, mapE (KL.ints .u8) (ByteArray.empty : ByteArray) AV.str o9)] rfl ⟨.inl (Le.refl _), .inl (Le.refl _), .inr ⟨_, rfl, by first | exact Nat.le_refl _ | simp, rfl⟩, .inl (Le.refl _), .inl (Le.refl _), .inl (Le.refl _), trivial⟩ ⟨⟨_, rfl, LeO.refl _⟩, ⟨_, rfl, LeO.refl _⟩, trivial⟩ rfl (dom0 rfl) ?_
        refine RS.region ?_
        refine RS.go ?_
        refine RT.goto rfl ?_
        refine RS.slot 33 (sq e_L [o7b]) (Le.lit (E := e_L) (l := [o7b]) (cells_of rfl)) ?_
        refine RS.go ?_
        refine RT.req rfl ⟨by first | rfl | simp, by first | exact Nat.le_refl _ | simp⟩ ?_
        refine RT.not rfl (by simp <;> omega) ?_
        refine RT.br rfl (fun c8 => ?_) (fun _ => RT.none)
        refine RT.goto rfl ?_
        refine RS.obj 4 (bufE e_L (o4 ++ [o7b])) ⟨_, rfl, LeO.app (l := o4) (m := [o7b]) fun _ _ _ _ => rfl⟩ ?_
        refine RS.slot 34 (.osl 4 e_L.w 0 (o4 ++ [o7b]).length (o4 ++ [o7b]).length) (by first | exact Le.oslN rfl (by simp) | exact Le.trans (y := .osl 4 e_L.w 0 (o4.length + 1) (o4.length + 1)) (Le.refl _) (Le.oslN rfl (by simp))) ?_
        refine RS.go ?_
        refine RT.goto rfl ?_
        refine RS.weak [(3, .omap 9), (4, .osl 4 e_L.w 0 (o4 ++ [o7b]).length (o4 ++ [o7b]).length), (11, sq eS x11), (12, .int .i64 x12), (13, .int .i64 (wrap64 (x13 + 1)))] [(4, bufE e_L (o4 ++ [o7b])), (9, mapE (KL.ints .u8) (ByteArray.empty : ByteArray) AV.str o9)] ⟨Le.eq (by first | rfl | simp), (by first | exact Le.oslN rfl (by first | rfl | simp) | exact Le.refl _ | exact Le.eq (by first | rfl | simp)), Le.eq (by first | rfl | simp), Le.eq (by first | rfl | simp), Le.eq (by first | rfl | simp), trivial⟩ ⟨⟨_, rfl, LeO.refl _⟩, ⟨_, rfl, LeO.refl _⟩, trivial⟩ rfl (dom0 rfl) ?_
        exact ih.2 x11 x12 (wrap64 (x13 + 1)) (o4 ++ [o7b]) o9 
    · intro x11 x12 x13 o4 o9
      simp only [key_words.l0]
      refine RS.go ?_
      refine RT.br rfl (fun c10 => ?_) (fun c10 => ?_)
      · refine RT.br rfl (fun c3 => ?_) (fun c3 => RT.none)
        refine RT.br rfl (fun c4 => ?_) (fun c4 => RT.none)
        refine RT.goto rfl ?_
        refine RS.ghost 7 7 eS.w (rep eS []) rfl rfl ?_
        refine RS.weak [(3, .omap 9), (4, .osl 4 e_L.w 0 o4.length o4.length), (6, .str (rdE eS x11 x13)), (7, .osl 7 eS.w 0 ([] : List ByteArray).length ([] : List ByteArray).length), (11, sq eS x11), (12, .int .i64 x12), (13, .int .i64 x13), (18, .int .i64 ((rdE eS x11 x13).size : Int)), (19, .int .i64 0)] [(4, bufE e_L o4), (7, bufE eS ([] : List ByteArray)), (9, mapE (KL.ints .u8) (ByteArray.empty : ByteArray) AV.str o9)] ⟨Le.eq (by first | rfl | simp), (by first | exact Le.oslN rfl (by first | rfl | simp) | exact Le.refl _ | exact Le.eq (by first | rfl | simp)), Le.eq (by first | rfl | simp), (by first | exact Le.oslN rfl (by first | rfl | simp) | exact Le.refl _ | exact Le.eq (by first | rfl | simp)), Le.eq (by first | rfl | simp), Le.eq (by first | rfl | simp), Le.eq (by first | rfl | simp), Le.eq (by first | rfl | simp), Le.eq (by first | rfl | simp), trivial⟩ ⟨⟨_, rfl, LeO.refl _⟩, ⟨_, rfl, LeO.refl _⟩, ⟨_, rfl, LeO.refl _⟩, trivial⟩ rfl (dom0 rfl) ?_
        exact ih.1 x11 x12 x13 o4 o9 0 [] 
      · refine RT.freeze 4 _ _ _ [(2, sq e_L o4)] [] rfl rfl ⟨.inr ⟨_, rfl, by first | exact Nat.le_refl _ | simp, rfl⟩, trivial⟩ trivial rfl (dom0 rfl) ?_
        exact RT.done rfl rfl (Le.refl _) trivial rfl (dom0 rfl)
theorem key_words.ok (k : Nat) (a0 : ByteArray) (r : (List (List ByteArray))) (h : key_words.f k a0 = some r) : Ct Tryz.prog B 80 [.str a0] (ofL []) (sq e_L r) (ofL []) := by
  refine Ct.of (Y := (fam Tryz.f80 [12] [] [] (fun r : (List (List ByteArray)) => sq e_L r) (fun r => []))) Tryz.func80 rfl Tryz.call80 rfl rfl ?_ r h
  unfold key_words.f
  refine RS.go ?_
  refine RT.call rfl (fun _ h => key_byBytes.ok k  _ h) (fun i => bif Nat.beq i 4 then 9 else i) (LeL.eq rfl) trivial (fun _ => rfl) (fun r1 => ?_)
  refine RS.go ?_
  refine RT.call0 rfl (fun _ h => strings_Split.ok a0 (⟨#[32]⟩ : ByteArray) _ h) (LeL.eq rfl) (fun _ => rfl) (fun r2 => ?_)
  refine RS.go ?_
  refine RT.goto rfl ?_
  refine RS.ghost 4 4 e_L.w (rep e_L []) rfl rfl ?_
  refine RS.weak [(3, .omap 9), (4, .osl 4 e_L.w 0 ([] : List (List ByteArray)).length ([] : List (List ByteArray)).length), (11, sq eS r2), (12, .int .i64 (r2.length : Int)), (13, .int .i64 0)] [(4, bufE e_L ([] : List (List ByteArray))), (9, mapE (KL.ints .u8) (ByteArray.empty : ByteArray) AV.str r1)] ⟨Le.eq (by first | rfl | simp), (by first | exact Le.oslN rfl (by first | rfl | simp) | exact Le.refl _ | exact Le.eq (by first | rfl | simp)), Le.eq (by first | rfl | simp), Le.eq (by first | rfl | simp), Le.eq (by first | rfl | simp), trivial⟩ ⟨⟨_, rfl, LeO.refl _⟩, ⟨_, rfl, LeO.refl _⟩, trivial⟩ rfl (dom0 rfl) ?_
  exact (key_words.loops k).2 r2 (r2.length : Int) 0 [] r1 
/-! ### key_lengths: function 52 -/
mutual
def key_lengths.j20 : Nat → Int → Int → List (List ByteArray) → Int → Int → Int → Int → List Int → Int → Option ((List Int))
  | 0, _, _, _, _, _, _, _, _, _ => Option.none
  | k + 1, a1, a2, x15, x16, x17, x31b, x45c, o7j17, x13j20 => (if o7j17.length + 1 ≤ 549755813888 then key_lengths.l2 k a1 a2 x15 x16 x17 x31b (wrap64 (x45c + 1)) (o7j17 ++ [x13j20]) else Option.none)
def key_lengths.j17 : Nat → Int → Int → List (List ByteArray) → Int → Int → Int → Int → List Int → Option ((List Int))
  | 0, _, _, _, _, _, _, _, _ => Option.none
  | k + 1, a1, a2, x15, x16, x17, x31b, x45c, o7j17 => (if 0 ≤ x45c then (if x45c < ((rdE eS (rdE e_L x15 x17) x31b).size : Int) then (if bt (rdE eS (rdE e_L x15 x17) x31b) x45c = 45 then key_lengths.j20 k a1 a2 x15 x16 x17 x31b x45c o7j17 (wrap64 (a1 * 3)) else key_lengths.j20 k a1 a2 x15 x16 x17 x31b x45c o7j17 a1) else Option.none) else Option.none)
def key_lengths.l2 : Nat → Int → Int → List (List ByteArray) → Int → Int → Int → Int → List Int → Option ((List Int))
  | 0, _, _, _, _, _, _, _, _ => Option.none
  | k + 1, a1, a2, x15, x16, x17, x31b, x45c, o7c => (if x45c < ((rdE eS (rdE e_L x15 x17) x31b).size : Int) then (if x45c > 0 then (if o7c.length + 1 ≤ 549755813888 then key_lengths.j17 k a1 a2 x15 x16 x17 x31b x45c (o7c ++ [a1]) else Option.none) else key_lengths.j17 k a1 a2 x15 x16 x17 x31b x45c o7c) else key_lengths.l1 k a1 a2 x15 x16 x17 (wrap64 (x31b + 1)) o7c)
def key_lengths.j12 : Nat → Int → Int → List (List ByteArray) → Int → Int → Int → List Int → Option ((List Int))
  | 0, _, _, _, _, _, _, _ => Option.none
  | k + 1, a1, a2, x15, x16, x17, x31b, o7j12 => key_lengths.l2 k a1 a2 x15 x16 x17 x31b 0 o7j12
def key_lengths.l1 : Nat → Int → Int → List (List ByteArray) → Int → Int → Int → List Int → Option ((List Int))
  | 0, _, _, _, _, _, _, _ => Option.none
  | k + 1, a1, a2, x15, x16, x17, x31b, o7b => (if x31b < ((rdE e_L x15 x17).length : Int) then (if 0 ≤ x31b then (if x31b < ((rdE e_L x15 x17).length : Int) then (if x31b > 0 then (if o7b.length + 1 ≤ 549755813888 then key_lengths.j12 k a1 a2 x15 x16 x17 x31b (o7b ++ [wrap64 (3 * a2)]) else Option.none) else key_lengths.j12 k a1 a2 x15 x16 x17 x31b o7b) else Option.none) else Option.none) else key_lengths.l0 k a1 a2 x15 x16 (wrap64 (x17 + 1)) o7b)
def key_lengths.j7 : Nat → Int → Int → List (List ByteArray) → Int → Int → List Int → Option ((List Int))
  | 0, _, _, _, _, _, _ => Option.none
  | k + 1, a1, a2, x15, x16, x17, o7j7 => key_lengths.l1 k a1 a2 x15 x16 x17 0 o7j7
def key_lengths.l0 : Nat → Int → Int → List (List ByteArray) → Int → Int → List Int → Option ((List Int))
  | 0, _, _, _, _, _, _ => Option.none
  | k + 1, a1, a2, x15, x16, x17, o7 => (if x17 < x16 then (if 0 ≤ x17 then (if x17 < (x15.length : Int) then (if x17 > 0 then (if o7.length + 1 ≤ 549755813888 then key_lengths.j7 k a1 a2 x15 x16 x17 (o7 ++ [wrap64 (7 * a2)]) else Option.none) else key_lengths.j7 k a1 a2 x15 x16 x17 o7) else Option.none) else Option.none) else Option.some o7)
end
def key_lengths.f (k : Nat) (a0 : ByteArray) (a1 : Int) (a2 : Int) : Option ((List Int)) := ((key_words.f k a0).bind fun r1 => key_lengths.l0 k a1 a2 r1 (r1.length : Int) 0 [])
theorem key_lengths.loops : ∀ k, (∀ (a1 : Int) (a2 : Int) (x15 : List (List ByteArray)) (x16 : Int) (x17 : Int) (x31b : Int) (x45c : Int) (o7j17 : List Int) (x13j20 : Int), RS (fam Tryz.f52 [7, 12, 17, 20] [] [] (fun r : (List Int) => sq eI r) (fun r => [])) (Func.reg Tryz.f52 20) ⟨ofT [(1, .int .i64 a1), (2, .int .i64 a2), (7, .osl 7 eI.w 0 o7j17.length o7j17.length), (11, .str (rdE eS (rdE e_L x15 x17) x31b)), (13, .int .i64 x13j20), (15, sq e_L x15), (16, .int .i64 x16), (17, .int .i64 x17), (29, sq eS (rdE e_L x15 x17)), (30, .int .i64 ((rdE e_L x15 x17).length : Int)), (31, .int .i64 x31b), (44, .int .i64 ((rdE eS (rdE e_L x15 x17) x31b).size : Int)), (45, .int .i64 x45c)], ofL [(7, bufE eI o7j17)]⟩ (key_lengths.j20 k a1 a2 x15 x16 x17 x31b x45c o7j17 x13j20)) ∧ (∀ (a1 : Int) (a2 : Int) (x15 : List (List ByteArray)) (x16 : Int) (x17 : Int) (x31b : Int) (x45c : Int) (o7j17 : List Int), RS (fam Tryz.f52 [7, 12, 17, 20] [] [] (fun r : (List Int) => sq eI r) (fun r => [])) (Func.reg Tryz.f52 17) ⟨ofT [(1, .int .i64 a1), (2, .int .i64 a2), (7, .osl 7 eI.w 0 o7j17.length o7j17.length), (11, .str (rdE eS (rdE e_L x15 x17) x31b)), (12, .int .i64 x45c), (15, sq e_L x15), (16, .int .i64 x16), (17, .int .i64 x17), (29, sq eS (rdE e_L x15 x17)), (30, .int .i64 ((rdE e_L x15 x17).length : Int)), (31, .int .i64 x31b), (44, .int .i64 ((rdE eS (rdE e_L x15 x17) x31b).size : Int)), (45, .int .i64 x45c)], ofL [(7, bufE eI o7j17)]⟩ (key_lengths.j17 k a1 a2 x15 x16 x17 x31b x45c o7j17)) ∧ (∀ (a1 : Int) (a2 : Int) (x15 : List (List ByteArray)) (x16 : Int) (x17 : Int) (x31b : Int) (x45c : Int) (o7c : List Int), RS (fam Tryz.f52 [7, 12, 17, 20] [] [] (fun r : (List Int) => sq eI r) (fun r => [])) (Func.head Tryz.f52 2) ⟨ofT [(1, .int .i64 a1), (2, .int .i64 a2), (7, .osl 7 eI.w 0 o7c.length o7c.length), (11, .str (rdE eS (rdE e_L x15 x17) x31b)), (15, sq e_L x15), (16, .int .i64 x16), (17, .int .i64 x17), (29, sq eS (rdE e_L x15 x17)), (30, .int .i64 ((rdE e_L x15 x17).length : Int)), (31, .int .i64 x31b), (44, .int .i64 ((rdE eS (rdE e_L x15 x17) x31b).size : Int)), (45, .int .i64 x45c)], ofL [(7, bufE eI o7c)]⟩ (key_lengths.l2 k a1 a2 x15 x16 x17 x31b x45c o7c)) ∧ (∀ (a1 : Int) (a2 : Int) (x15 : List (List ByteArray)) (x16 : Int) (x17 : Int) (x31b : Int) (o7j12 : List Int), RS (fam Tryz.f52 [7, 12, 17, 20] [] [] (fun r : (List Int) => sq eI r) (fun r => [])) (Func.reg Tryz.f52 12) ⟨ofT [(1, .int .i64 a1), (2, .int .i64 a2), (7, .osl 7 eI.w 0 o7j12.length o7j12.length), (11, .str (rdE eS (rdE e_L x15 x17) x31b)), (15, sq e_L x15), (16, .int .i64 x16), (17, .int .i64 x17), (29, sq eS (rdE e_L x15 x17)), (30, .int .i64 ((rdE e_L x15 x17).length : Int)), (31, .int .i64 x31b)], ofL [(7, bufE eI o7j12)]⟩ (key_lengths.j12 k a1 a2 x15 x16 x17 x31b o7j12)) ∧ (∀ (a1 : Int) (a2 : Int) (x15 : List (List ByteArray)) (x16 : Int) (x17 : Int) (x31b : Int) (o7b : List Int), RS (fam Tryz.f52 [7, 12, 17, 20] [] [] (fun r : (List Int) => sq eI r) (fun r => [])) (Func.head Tryz.f52 1) ⟨ofT [(1, .int .i64 a1), (2, .int .i64 a2), (7, .osl 7 eI.w 0 o7b.length o7b.length), (15, sq e_L x15), (16, .int .i64 x16), (17, .int .i64 x17), (29, sq eS (rdE e_L x15 x17)), (30, .int .i64 ((rdE e_L x15 x17).length : Int)), (31, .int .i64 x31b)], ofL [(7, bufE eI o7b)]⟩ (key_lengths.l1 k a1 a2 x15 x16 x17 x31b o7b)) ∧ (∀ (a1 : Int) (a2 : Int) (x15 : List (List ByteArray)) (x16 : Int) (x17 : Int) (o7j7 : List Int), RS (fam Tryz.f52 [7, 12, 17, 20] [] [] (fun r : (List Int) => sq eI r) (fun r => [])) (Func.reg Tryz.f52 7) ⟨ofT [(1, .int .i64 a1), (2, .int .i64 a2), (7, .osl 7 eI.w 0 o7j7.length o7j7.length), (9, sq eS (rdE e_L x15 x17)), (15, sq e_L x15), (16, .int .i64 x16), (17, .int .i64 x17)], ofL [(7, bufE eI o7j7)]⟩ (key_lengths.j7 k a1 a2 x15 x16 x17 o7j7)) ∧ (∀ (a1 : Int) (a2 : Int) (x15 : List (List ByteArray)) (x16 : Int) (x17 : Int) (o7 : List Int), RS (fam Tryz.f52 [7, 12, 17, 20] [] [] (fun r : (List Int) => sq eI r) (fun r => [])) (Func.head Tryz.f52 0) ⟨ofT [(1, .int .i64 a1), (2, .int .i64 a2), (7, .osl 7 eI.w 0 o7.length o7.length), (15, sq e_L x15), (16, .int .i64 x16), (17, .int .i64 x17)], ofL [(7, bufE eI o7)]⟩ (key_lengths.l0 k a1 a2 x15 x16 x17 o7))
  | 0 => ⟨by intro _ _ _ _ _ _ _ _ _; simp only [key_lengths.j20]; exact RS.none, by intro _ _ _ _ _ _ _ _; simp only [key_lengths.j17]; exact RS.none, by intro _ _ _ _ _ _ _ _; simp only [key_lengths.l2]; exact RS.none, by intro _ _ _ _ _ _ _; simp only [key_lengths.j12]; exact RS.none, by intro _ _ _ _ _ _ _; simp only [key_lengths.l1]; exact RS.none, by intro _ _ _ _ _ _; simp only [key_lengths.j7]; exact RS.none, by intro _ _ _ _ _ _; simp only [key_lengths.l0]; exact RS.none⟩
  | k + 1 => by
    have ih := key_lengths.loops k
    refine ⟨?_, ?_, ?_, ?_, ?_, ?_, ?_⟩
    · intro a1 a2 x15 x16 x17 x31b x45c o7j17 x13j20
      simp only [key_lengths.j20]
      refine RS.region ?_
      refine RS.go ?_
      refine RT.goto rfl ?_
      refine RS.slot 63 (sq eI [x13j20]) (Le.lit (E := eI) (l := [x13j20]) (cells_of rfl)) ?_
      refine RS.go ?_
      refine RT.req rfl ⟨by first | rfl | simp, by first | exact Nat.le_refl _ | simp⟩ ?_
      refine RT.not rfl (by simp <;> omega) ?_
      refine RT.br rfl (fun c8 => ?_) (fun _ => RT.none)
      refine RT.goto rfl ?_
      refine RS.obj 7 (bufE eI (o7j17 ++ [x13j20])) ⟨_, rfl, LeO.app (l := o7j17) (m := [x13j20]) fun _ _ _ _ => rfl⟩ ?_
      refine RS.slot 64 (.osl 7 eI.w 0 (o7j17 ++ [x13j20]).length (o7j17 ++ [x13j20]).length) (by first | exact Le.oslN rfl (by simp) | exact Le.trans (y := .osl 7 eI.w 0 (o7j17.length + 1) (o7j17.length + 1)) (Le.refl _) (Le.oslN rfl (by simp))) ?_
      refine RS.go ?_
      refine RT.goto rfl ?_
      refine RS.weak [(1, .int .i64 a1), (2, .int .i64 a2), (7, .osl 7 eI.w 0 (o7j17 ++ [x13j20]).length (o7j17 ++ [x13j20]).length), (11, .str (rdE eS (rdE e_L x15 x17) x31b)), (15, sq e_L x15), (16, .int .i64 x16), (17, .int .i64 x17), (29, sq eS (rdE e_L x15 x17)), (30, .int .i64 ((rdE e_L x15 x17).length : Int)), (31, .int .i64 x31b), (44, .int .i64 ((rdE eS (rdE e_L x15 x17) x31b).size : Int)), (45, .int .i64 (wrap64 (x45c + 1)))] [(7, bufE eI (o7j17 ++ [x13j20]))] ⟨Le.eq (by first | rfl | simp), Le.eq (by first | rfl | simp), (by first | exact Le.oslN rfl (by first | rfl | simp) | exact Le.refl _ | exact Le.eq (by first | rfl | simp)), Le.eq (by first | rfl | simp), Le.eq (by first | rfl | simp), Le.eq (by first | rfl | simp), Le.eq (by first | rfl | simp), Le.eq (by first | rfl | simp), Le.eq (by first | rfl | simp), Le.eq (by first | rfl | simp), Le.eq (by first | rfl | simp), Le.eq (by first | rfl | simp), trivial⟩ ⟨⟨_, rfl, LeO.refl _⟩, trivial⟩ rfl (dom0 rfl) ?_
      exact ih.2.2.1 a1 a2 x15 x16 x17 x31b (wrap64 (x45c + 1)) (o7j17 ++ [x13j20]) 
    · intro a1 a2 x15 x16 x17 x31b x45c o7j17
      simp only [key_lengths.j17]
      refine RS.region ?_
      refine RS.go ?_
      refine RT.br rfl (fun c6 => ?_) (fun c6 => RT.none)
      refine RT.br rfl (fun c7 => ?_) (fun c7 => RT.none)
      refine RT.br rfl (fun c9 => ?_) (fun c9 => ?_)
      · refine RT.goto rfl ?_
        refine RS.weak [(1, .int .i64 a1), (2, .int .i64 a2), (7, .osl 7 eI.w 0 o7j17.length o7j17.length), (11, .str (rdE eS (rdE e_L x15 x17) x31b)), (13, .int .i64 (wrap64 (a1 * 3))), (15, sq e_L x15), (16, .int .i64 x16), (17, .int .i64 x17), (29, sq eS (rdE e_L x15 x17)), (30, .int .i64 ((rdE e_L x15 x17).length : Int)), (31, .int .i64 x31b), (44, .int .i64 ((rdE eS (rdE e_L x15 x17) x31b).size : Int)), (45, .int .i64 x45c)] [(7, bufE eI o7j17)] ⟨Le.eq (by first | rfl | simp), Le.eq (by first | rfl | simp), (by first | exact Le.oslN rfl (by first | rfl | simp) | exact Le.refl _ | exact Le.eq (by first | rfl | simp)), Le.eq (by first | rfl | simp), Le.eq (by first | rfl | simp), Le.eq (by first | rfl | simp), Le.eq (by first | rfl | simp), Le.eq (by first | rfl | simp), Le.eq (by first | rfl | simp), Le.eq (by first | rfl | simp), Le.eq (by first | rfl | simp), Le.eq (by first | rfl | simp), Le.eq (by first | rfl | simp), trivial⟩ ⟨⟨_, rfl, LeO.refl _⟩, trivial⟩ rfl (dom0 rfl) ?_
        exact ih.1 a1 a2 x15 x16 x17 x31b x45c o7j17 (wrap64 (a1 * 3)) 
      · refine RT.goto rfl ?_
        refine RS.weak [(1, .int .i64 a1), (2, .int .i64 a2), (7, .osl 7 eI.w 0 o7j17.length o7j17.length), (11, .str (rdE eS (rdE e_L x15 x17) x31b)), (13, .int .i64 a1), (15, sq e_L x15), (16, .int .i64 x16), (17, .int .i64 x17), (29, sq eS (rdE e_L x15 x17)), (30, .int .i64 ((rdE e_L x15 x17).length : Int)), (31, .int .i64 x31b), (44, .int .i64 ((rdE eS (rdE e_L x15 x17) x31b).size : Int)), (45, .int .i64 x45c)] [(7, bufE eI o7j17)] ⟨Le.eq (by first | rfl | simp), Le.eq (by first | rfl | simp), (by first | exact Le.oslN rfl (by first | rfl | simp) | exact Le.refl _ | exact Le.eq (by first | rfl | simp)), Le.eq (by first | rfl | simp), Le.eq (by first | rfl | simp), Le.eq (by first | rfl | simp), Le.eq (by first | rfl | simp), Le.eq (by first | rfl | simp), Le.eq (by first | rfl | simp), Le.eq (by first | rfl | simp), Le.eq (by first | rfl | simp), Le.eq (by first | rfl | simp), Le.eq (by first | rfl | simp), trivial⟩ ⟨⟨_, rfl, LeO.refl _⟩, trivial⟩ rfl (dom0 rfl) ?_
        exact ih.1 a1 a2 x15 x16 x17 x31b x45c o7j17 a1 
    · intro a1 a2 x15 x16 x17 x31b x45c o7c
      simp only [key_lengths.l2]
      refine RS.go ?_
      refine RT.br rfl (fun c12 => ?_) (fun c12 => ?_)
      · refine RT.br rfl (fun c11 => ?_) (fun c11 => ?_)
        · refine RT.goto rfl ?_
          refine RS.slot 52 (sq eI [a1]) (Le.lit (E := eI) (l := [a1]) (cells_of rfl)) ?_
          refine RS.go ?_
          refine RT.req rfl ⟨by first | rfl | simp, by first | exact Nat.le_refl _ | simp⟩ ?_
          refine RT.not rfl (by simp <;> omega) ?_
          refine RT.br rfl (fun c10 => ?_) (fun _ => RT.none)
          refine RT.goto rfl ?_
          refine RS.obj 7 (bufE eI (o7c ++ [a1])) ⟨_, rfl, LeO.app (l := o7c) (m := [a1]) fun _ _ _ _ => rfl⟩ ?_
          refine RS.slot 53 (.osl 7 eI.w 0 (o7c ++ [a1]).length (o7c ++ [a1]).length) (by first | exact Le.oslN rfl (by simp) | exact Le.trans (y := .osl 7 eI.w 0 (o7c.length + 1) (o7c.length + 1)) (Le.refl _) (Le.oslN rfl (by simp))) ?_
          refine RS.go ?_
          refine RT.goto rfl ?_
          refine RS.weak [(1, .int .i64 a1), (2, .int .i64 a2), (7, .osl 7 eI.w 0 (o7c ++ [a1]).length (o7c ++ [a1]).length), (11, .str (rdE eS (rdE e_L x15 x17) x31b)), (12, .int .i64 x45c), (15, sq e_L x15), (16, .int .i64 x16), (17, .int .i64 x17), (29, sq eS (rdE e_L x15 x17)), (30, .int .i64 ((rdE e_L x15 x17).length : Int)), (31, .int .i64 x31b), (44, .int .i64 ((rdE eS (rdE e_L x15 x17) x31b).size : Int)), (45, .int .i64 x45c)] [(7, bufE eI (o7c ++ [a1]))] ⟨Le.eq (by first | rfl | simp), Le.eq (by first | rfl | simp), (by first | exact Le.oslN rfl (by first | rfl | simp) | exact Le.refl _ | exact Le.eq (by first | rfl | simp)), Le.eq (by first | rfl | simp), Le.eq (by first | rfl | simp), Le.eq (by first | rfl | simp), Le.eq (by first | rfl | simp), Le.eq (by first | rfl | simp), Le.eq (by first | rfl | simp), Le.eq (by first | rfl | simp), Le.eq (by first | rfl | simp), Le.eq (by first | rfl | simp), Le.eq (by first | rfl | simp), trivial⟩ ⟨⟨_, rfl, LeO.refl _⟩, trivial⟩ rfl (dom0 rfl) ?_
          exact ih.2.1 a1 a2 x15 x16 x17 x31b x45c (o7c ++ [a1]) 
        · refine RT.goto rfl ?_
          refine RS.weak [(1, .int .i64 a1), (2, .int .i64 a2), (7, .osl 7 eI.w 0 o7c.length o7c.length), (11, .str (rdE eS (rdE e_L x15 x17) x31b)), (12, .int .i64 x45c), (15, sq e_L x15), (16, .int .i64 x16), (17, .int .i64 x17), (29, sq eS (rdE e_L x15 x17)), (30, .int .i64 ((rdE e_L x15 x17).length : Int)), (31, .int .i64 x31b), (44, .int .i64 ((rdE eS (rdE e_L x15 x17) x31b).size : Int)), (45, .int .i64 x45c)] [(7, bufE eI o7c)] ⟨Le.eq (by first | rfl | simp), Le.eq (by first | rfl | simp), (by first | exact Le.oslN rfl (by first | rfl | simp) | exact Le.refl _ | exact Le.eq (by first | rfl | simp)), Le.eq (by first | rfl | simp), Le.eq (by first | rfl | simp), Le.eq (by first | rfl | simp), Le.eq (by first | rfl | simp), Le.eq (by first | rfl | simp), Le.eq (by first | rfl | simp), Le.eq (by first | rfl | simp), Le.eq (by first | rfl | simp), Le.eq (by first | rfl | simp), Le.eq (by first | rfl | simp), trivial⟩ ⟨⟨_, rfl, LeO.refl _⟩, trivial⟩ rfl (dom0 rfl) ?_
          exact ih.2.1 a1 a2 x15 x16 x17 x31b x45c o7c 
      · refine RT.goto rfl ?_
        refine RS.weak [(1, .int .i64 a1), (2, .int .i64 a2), (7, .osl 7 eI.w 0 o7c.length o7c.length), (15, sq e_L x15), (16, .int .i64 x16), (17, .int .i64 x17), (29, sq eS (rdE e_L x15 x17)), (30, .int .i64 ((rdE e_L x15 x17).length : Int)), (31, .int .i64 (wrap64 (x31b + 1)))] [(7, bufE eI o7c)] ⟨Le.eq (by first | rfl | simp), Le.eq (by first | rfl | simp), (by first | exact Le.oslN rfl (by first | rfl | simp) | exact Le.refl _ | exact Le.eq (by first | rfl | simp)), Le.eq (by first | rfl | simp), Le.eq (by first | rfl | simp), Le.eq (by first | rfl | simp), Le.eq (by first | rfl | simp), Le.eq (by first | rfl | simp), Le.eq (by first | rfl | simp), trivial⟩ ⟨⟨_, rfl, LeO.refl _⟩, trivial⟩ rfl (dom0 rfl) ?_
        exact ih.2.2.2.2.1 a1 a2 x15 x16 x17 (wrap64 (x31b + 1)) o7c 
    · intro a1 a2 x15 x16 x17 x31b o7j12
      simp only [key_lengths.j12]
      refine RS.region ?_
      refine RS.go ?_
      refine RT.goto rfl ?_
      refine RS.weak [(1, .int .i64 a1), (2, .int .i64 a2), (7, .osl 7 eI.w 0 o7j12.length o7j12.length), (11, .str (rdE eS (rdE e_L x15 x17) x31b)), (15, sq e_L x15), (16, .int .i64 x16), (17, .int .i64 x17), (29, sq eS (rdE e_L x15 x17)), (30, .int .i64 ((rdE e_L x15 x17).length : Int)), (31, .int .i64 x31b), (44, .int .i64 ((rdE eS (rdE e_L x15 x17) x31b).size : Int)), (45, .int .i64 0)] [(7, bufE eI o7j12)] ⟨Le.eq (by first | rfl | simp), Le.eq (by first | rfl | simp), (by first | exact Le.oslN rfl (by first | rfl | simp) | exact Le.refl _ | exact Le.eq (by first | rfl | simp)), Le.eq (by first | rfl | simp), Le.eq (by first | rfl | simp), Le.eq (by first | rfl | simp), Le.eq (by first | rfl | simp), Le.eq (by first | rfl | simp), Le.eq (by first | rfl | simp), Le.eq (by first | rfl | simp), Le.eq (by first | rfl | simp), Le.eq (by first | rfl | simp), trivial⟩ ⟨⟨_, rfl, LeO.refl _⟩, trivial⟩ rfl (dom0 rfl) ?_
      exact ih.2.2.1 a1 a2 x15 x16 x17 x31b 0 o7j12 
    · intro a1 a2 x15 x16 x17 x31b o7b
      simp only [key_lengths.l1]
      refine RS.go ?_
      refine RT.br rfl (fun c15 => ?_) (fun c15 => ?_)
      · refine RT.br rfl (fun c4 => ?_) (fun c4 => RT.none)
        refine RT.br rfl (fun c5 => ?_) (fun c5 => RT.none)
        refine RT.br rfl (fun c14 => ?_) (fun c14 => ?_)
        · refine RT.goto rfl ?_
          refine RS.slot 41 (sq eI [wrap64 (3 * a2)]) (Le.lit (E := eI) (l := [wrap64 (3 * a2)]) (cells_of rfl)) ?_
          refine RS.go ?_
          refine RT.req rfl ⟨by first | rfl | simp, by first | exact Nat.le_refl _ | simp⟩ ?_
          refine RT.not rfl (by simp <;> omega) ?_
          refine RT.br rfl (fun c13 => ?_) (fun _ => RT.none)
          refine RT.goto rfl ?_
          refine RS.obj 7 (bufE eI (o7b ++ [wrap64 (3 * a2)])) ⟨_, rfl, LeO.app (l := o7b) (m := [wrap64 (3 * a2)]) fun _ _ _ _ => rfl⟩ ?_
          refine RS.slot 42 (.osl 7 eI.w 0 (o7b ++ [wrap64 (3 * a2)]).length (o7b ++ [wrap64 (3 * a2)]).length) (by first | exact Le.oslN rfl (by simp) | exact Le.trans (y := .osl 7 eI.w 0 (o7b.length + 1) (o7b.length + 1)) (Le.refl _) (Le.oslN rfl (by simp))) ?_
          refine RS.go ?_
          refine RT.goto rfl ?_
          refine RS.weak [(1, .int .i64 a1), (2, .int .i64 a2), (7, .osl 7 eI.w 0 (o7b ++ [wrap64 (3 * a2)]).length (o7b ++ [wrap64 (3 * a2)]).length), (11, .str (rdE eS (rdE e_L x15 x17) x31b)), (15, sq e_L x15), (16, .int .i64 x16), (17, .int .i64 x17), (29, sq eS (rdE e_L x15 x17)), (30, .int .i64 ((rdE e_L x15 x17).length : Int)), (31, .int .i64 x31b)] [(7, bufE eI (o7b ++ [wrap64 (3 * a2)]))] ⟨Le.eq (by first | rfl | simp), Le.eq (by first | rfl | simp), (by first | exact Le.oslN rfl (by first | rfl | simp) | exact Le.refl _ | exact Le.eq (by first | rfl | simp)), Le.eq (by first | rfl | simp), Le.eq (by first | rfl | simp), Le.eq (by first | rfl | simp), Le.eq (by first | rfl | simp), Le.eq (by first | rfl | simp), Le.eq (by first | rfl | simp), Le.eq (by first | rfl | simp), trivial⟩ ⟨⟨_, rfl, LeO.refl _⟩, trivial⟩ rfl (dom0 rfl) ?_
          exact ih.2.2.2.1 a1 a2 x15 x16 x17 x31b (o7b ++ [wrap64 (3 * a2)]) 
        · refine RT.goto rfl ?_
          refine RS.weak [(1, .int .i64 a1), (2, .int .i64 a2), (7, .osl 7 eI.w 0 o7b.length o7b.length), (11, .str (rdE eS (rdE e_L x15 x17) x31b)), (15, sq e_L x15), (16, .int .i64 x16), (17, .int .i64 x17), (29, sq eS (rdE e_L x15 x17)), (30, .int .i64 ((rdE e_L x15 x17).length : Int)), (31, .int .i64 x31b)] [(7, bufE eI o7b)] ⟨Le.eq (by first | rfl | simp), Le.eq (by first | rfl | simp), (by first | exact Le.oslN rfl (by first | rfl | simp) | exact Le.refl _ | exact Le.eq (by first | rfl | simp)), Le.eq (by first | rfl | simp), Le.eq (by first | rfl | simp), Le.eq (by first | rfl | simp), Le.eq (by first | rfl | simp), Le.eq (by first | rfl | simp), Le.eq (by first | rfl | simp), Le.eq (by first | rfl | simp), trivial⟩ ⟨⟨_, rfl, LeO.refl _⟩, trivial⟩ rfl (dom0 rfl) ?_
          exact ih.2.2.2.1 a1 a2 x15 x16 x17 x31b o7b 
      · refine RT.goto rfl ?_
        refine RS.weak [(1, .int .i64 a1), (2, .int .i64 a2), (7, .osl 7 eI.w 0 o7b.length o7b.length), (15, sq e_L x15), (16, .int .i64 x16), (17, .int .i64 (wrap64 (x17 + 1)))] [(7, bufE eI o7b)] ⟨Le.eq (by first | rfl | simp), Le.eq (by first | rfl | simp), (by first | exact Le.oslN rfl (by first | rfl | simp) | exact Le.refl _ | exact Le.eq (by first | rfl | simp)), Le.eq (by first | rfl | simp), Le.eq (by first | rfl | simp), Le.eq (by first | rfl | simp), trivial⟩ ⟨⟨_, rfl, LeO.refl _⟩, trivial⟩ rfl (dom0 rfl) ?_
        exact ih.2.2.2.2.2.2 a1 a2 x15 x16 (wrap64 (x17 + 1)) o7b 
    · intro a1 a2 x15 x16 x17 o7j7
      simp only [key_lengths.j7]
      refine RS.region ?_
      refine RS.go ?_
      refine RT.goto rfl ?_
      refine RS.weak [(1, .int .i64 a1), (2, .int .i64 a2), (7, .osl 7 eI.w 0 o7j7.length o7j7.length), (15, sq e_L x15), (16, .int .i64 x16), (17, .int .i64 x17), (29, sq eS (rdE e_L x15 x17)), (30, .int .i64 ((rdE e_L x15 x17).length : Int)), (31, .int .i64 0)] [(7, bufE eI o7j7)] ⟨Le.eq (by first | rfl | simp), Le.eq (by first | rfl | simp), (by first | exact Le.oslN rfl (by first | rfl | simp) | exact Le.refl _ | exact Le.eq (by first | rfl | simp)), Le.eq (by first | rfl | simp), Le.eq (by first | rfl | simp), Le.eq (by first | rfl | simp), Le.eq (by first | rfl | simp), Le.eq (by first | rfl | simp), Le.eq (by first | rfl | simp), trivial⟩ ⟨⟨_, rfl, LeO.refl _⟩, trivial⟩ rfl (dom0 rfl) ?_
      exact ih.2.2.2.2.1 a1 a2 x15 x16 x17 0 o7j7 
    · intro a1 a2 x15 x16 x17 o7
      simp only [key_lengths.l0]
      refine RS.go ?_
      refine RT.br rfl (fun c18 => ?_) (fun c18 => ?_)
      · refine RT.br rfl (fun c2 => ?_) (fun c2 => RT.none)
        refine RT.br rfl (fun c3 => ?_) (fun c3 => RT.none)
        refine RT.br rfl (fun c17 => ?_) (fun c17 => ?_)
        · refine RT.goto rfl ?_
          refine RS.slot 27 (sq eI [wrap64 (7 * a2)]) (Le.lit (E := eI) (l := [wrap64 (7 * a2)]) (cells_of rfl)) ?_
          refine RS.go ?_
          refine RT.req rfl ⟨by first | rfl | simp, by first | exact Nat.le_refl _ | simp⟩ ?_
          refine RT.not rfl (by simp <;> omega) ?_
          refine RT.br rfl (fun c16 => ?_) (fun _ => RT.none)
          refine RT.goto rfl ?_
          refine RS.obj 7 (bufE eI (o7 ++ [wrap64 (7 * a2)])) ⟨_, rfl, LeO.app (l := o7) (m := [wrap64 (7 * a2)]) fun _ _ _ _ => rfl⟩ ?_
          refine RS.slot 28 (.osl 7 eI.w 0 (o7 ++ [wrap64 (7 * a2)]).length (o7 ++ [wrap64 (7 * a2)]).length) (by first | exact Le.oslN rfl (by simp) | exact Le.trans (y := .osl 7 eI.w 0 (o7.length + 1) (o7.length + 1)) (Le.refl _) (Le.oslN rfl (by simp))) ?_
          refine RS.go ?_
          refine RT.goto rfl ?_
          refine RS.weak [(1, .int .i64 a1), (2, .int .i64 a2), (7, .osl 7 eI.w 0 (o7 ++ [wrap64 (7 * a2)]).length (o7 ++ [wrap64 (7 * a2)]).length), (9, sq eS (rdE e_L x15 x17)), (15, sq e_L x15), (16, .int .i64 x16), (17, .int .i64 x17)] [(7, bufE eI (o7 ++ [wrap64 (7 * a2)]))] ⟨Le.eq (by first | rfl | simp), Le.eq (by first | rfl | simp), (by first | exact Le.oslN rfl (by first | rfl | simp) | exact Le.refl _ | exact Le.eq (by first | rfl | simp)), Le.eq (by first | rfl | simp), Le.eq (by first | rfl | simp), Le.eq (by first | rfl | simp), Le.eq (by first | rfl | simp), trivial⟩ ⟨⟨_, rfl, LeO.refl _⟩, trivial⟩ rfl (dom0 rfl) ?_
          exact ih.2.2.2.2.2.1 a1 a2 x15 x16 x17 (o7 ++ [wrap64 (7 * a2)]) 
        · refine RT.goto rfl ?_
          refine RS.weak [(1, .int .i64 a1), (2, .int .i64 a2), (7, .osl 7 eI.w 0 o7.length o7.length), (9, sq eS (rdE e_L x15 x17)), (15, sq e_L x15), (16, .int .i64 x16), (17, .int .i64 x17)] [(7, bufE eI o7)] ⟨Le.eq (by first | rfl | simp), Le.eq (by first | rfl | simp), (by first | exact Le.oslN rfl (by first | rfl | simp) | exact Le.refl _ | exact Le.eq (by first | rfl | simp)), Le.eq (by first | rfl | simp), Le.eq (by first | rfl | simp), Le.eq (by first | rfl | simp), Le.eq (by first | rfl | simp), trivial⟩ ⟨⟨_, rfl, LeO.refl _⟩, trivial⟩ rfl (dom0 rfl) ?_
          exact ih.2.2.2.2.2.1 a1 a2 x15 x16 x17 o7 
      · refine RT.freeze 7 _ _ _ [(6, sq eI o7)] [] rfl rfl ⟨.inr ⟨_, rfl, by first | exact Nat.le_refl _ | simp, rfl⟩, trivial⟩ trivial rfl (dom0 rfl) ?_
        exact RT.done rfl rfl (Le.refl _) trivial rfl (dom0 rfl)
theorem key_lengths.ok (k : Nat) (a0 : ByteArray) (a1 : Int) (a2 : Int) (r : (List Int)) (h : key_lengths.f k a0 a1 a2 = some r) : Ct Tryz.prog B 52 [.str a0, .int .i64 a1, .int .i64 a2] (ofL []) (sq eI r) (ofL []) := by
  refine Ct.of (Y := (fam Tryz.f52 [7, 12, 17, 20] [] [] (fun r : (List Int) => sq eI r) (fun r => []))) Tryz.func52 rfl Tryz.call52 rfl rfl ?_ r h
  unfold key_lengths.f
  refine RS.go ?_
  refine RT.call0 rfl (fun _ h => key_words.ok k a0 _ h) (LeL.eq rfl) (fun _ => rfl) (fun r1 => ?_)
  refine RS.go ?_
  refine RT.goto rfl ?_
  refine RS.ghost 7 7 eI.w (rep eI []) rfl rfl ?_
  refine RS.weak [(1, .int .i64 a1), (2, .int .i64 a2), (7, .osl 7 eI.w 0 ([] : List Int).length ([] : List Int).length), (15, sq e_L r1), (16, .int .i64 (r1.length : Int)), (17, .int .i64 0)] [(7, bufE eI ([] : List Int))] ⟨Le.eq (by first | rfl | simp), Le.eq (by first | rfl | simp), (by first | exact Le.oslN rfl (by first | rfl | simp) | exact Le.refl _ | exact Le.eq (by first | rfl | simp)), Le.eq (by first | rfl | simp), Le.eq (by first | rfl | simp), Le.eq (by first | rfl | simp), trivial⟩ ⟨⟨_, rfl, LeO.refl _⟩, trivial⟩ rfl (dom0 rfl) ?_
  exact (key_lengths.loops k).2.2.2.2.2.2 a1 a2 r1 (r1.length : Int) 0 [] 
/-! ### key_Units: function 31 -/
def key_Units.l0 : Nat → Int → List Int → Int → Int → Option (Int × Int)
  | 0, _, _, _, _ => Option.none
  | k + 1, x5, x14, x15, x16 => (if x16 < x15 then (if 0 ≤ x16 then (if x16 < (x14.length : Int) then key_Units.l0 k (wrap64 (x5 + (rd x14 x16))) x14 x15 (wrap64 (x16 + 1)) else Option.none) else Option.none) else Option.some (x5, 0))
def key_Units.f (k : Nat) (a0 : ByteArray) : Option (Int × Int) := ((key_CheckSaid.f k a0).bind fun r1 => (if r1 = 0 then ((key_lengths.f k a0 1 1).bind fun r2 => key_Units.l0 k 0 r2 (r2.length : Int) 0) else Option.some (0, r1)))
theorem key_Units.loops : ∀ k, (∀ (x5 : Int) (x14 : List Int) (x15 : Int) (x16 : Int), RS (fam Tryz.f31 [] [] [] (fun r : Int × Int => .tup [.int .i64 r.1, .int .i64 r.2]) (fun r => [])) (Func.head Tryz.f31 0) ⟨ofT [(5, .int .i64 x5), (14, sq eI x14), (15, .int .i64 x15), (16, .int .i64 x16)], ofL []⟩ (key_Units.l0 k x5 x14 x15 x16))
  | 0 => by intro _ _ _ _; simp only [key_Units.l0]; exact RS.none
  | k + 1 => by
    have ih := key_Units.loops k
    · intro x5 x14 x15 x16
      simp only [key_Units.l0]
      refine RS.go ?_
      refine RT.br rfl (fun c5 => ?_) (fun c5 => ?_)
      · refine RT.br rfl (fun c3 => ?_) (fun c3 => RT.none)
        refine RT.br rfl (fun c4 => ?_) (fun c4 => RT.none)
        refine RT.goto rfl ?_
        refine RS.weak [(5, .int .i64 (wrap64 (x5 + (rd x14 x16)))), (14, sq eI x14), (15, .int .i64 x15), (16, .int .i64 (wrap64 (x16 + 1)))] [] ⟨Le.eq (by first | rfl | simp), Le.eq (by first | rfl | simp), Le.eq (by first | rfl | simp), Le.eq (by first | rfl | simp), trivial⟩ trivial rfl (dom0 rfl) ?_
        exact ih (wrap64 (x5 + (rd x14 x16))) x14 x15 (wrap64 (x16 + 1)) 
      · exact RT.done rfl rfl (Le.tup (LeL.cons (Le.refl _) (LeL.cons (Le.refl _) (LeL.nil)))) trivial rfl (dom0 rfl)
theorem key_Units.ok (k : Nat) (a0 : ByteArray) (r : Int × Int) (h : key_Units.f k a0 = some r) : Ct Tryz.prog B 31 [.str a0] (ofL []) (.tup [.int .i64 r.1, .int .i64 r.2]) (ofL []) := by
  refine Ct.of (Y := (fam Tryz.f31 [] [] [] (fun r : Int × Int => .tup [.int .i64 r.1, .int .i64 r.2]) (fun r => []))) Tryz.func31 rfl Tryz.call31 rfl rfl ?_ r h
  unfold key_Units.f
  refine RS.go ?_
  refine RT.call0 rfl (fun _ h => key_CheckSaid.ok k a0 _ h) (LeL.eq rfl) (fun _ => rfl) (fun r1 => ?_)
  refine RS.go ?_
  refine RT.brN rfl (fun c6 => ?_) (fun c6 => ?_)
  · refine RT.call0 rfl (fun _ h => key_lengths.ok k a0 1 1 _ h) (LeL.eq rfl) (fun _ => rfl) (fun r2 => ?_)
    refine RS.go ?_
    refine RT.goto rfl ?_
    refine RS.weak [(5, .int .i64 0), (14, sq eI r2), (15, .int .i64 (r2.length : Int)), (16, .int .i64 0)] [] ⟨Le.eq (by first | rfl | simp), Le.eq (by first | rfl | simp), Le.eq (by first | rfl | simp), Le.eq (by first | rfl | simp), trivial⟩ trivial rfl (dom0 rfl) ?_
    exact key_Units.loops k 0 r2 (r2.length : Int) 0 
  · exact RT.done rfl rfl (Le.tup (LeL.cons (Le.refl _) (LeL.cons (Le.refl _) (LeL.nil)))) trivial rfl (dom0 rfl)
/-! ### kit_IsTime: function 81 -/
def kit_IsTime.f (a0_0 : Int) (a0_1 : Int) : Option (Bool) := (if a0_0 ≥ 0 then (if a0_0 < a0_1 then Option.some (decide (a0_1 ≤ 345686400000)) else Option.some false) else Option.some false)
theorem kit_IsTime.ok (a0_0 : Int) (a0_1 : Int) (r : Bool) (h : kit_IsTime.f a0_0 a0_1 = some r) : Ct Tryz.prog B 81 [.agg [.int .i64 a0_0, .int .i64 a0_1]] (ofL []) (.bool r) (ofL []) := by
  refine Ct.of (Y := (fam Tryz.f81 [] [] [] (fun r : Bool => .bool r) (fun r => []))) Tryz.func81 rfl Tryz.call81 rfl rfl ?_ r h
  unfold kit_IsTime.f
  refine RS.go ?_
  refine RT.br rfl (fun c2 => ?_) (fun c2 => ?_)
  · refine RT.brT rfl ?_
    refine RT.brT rfl ?_
    refine RT.brT rfl ?_
    refine RT.brT rfl ?_
    refine RT.brT rfl ?_
    refine RT.br rfl (fun c1 => ?_) (fun c1 => ?_)
    · refine RT.brT rfl ?_
      refine RT.brT rfl ?_
      refine RT.brT rfl ?_
      exact RT.done rfl rfl (Le.refl _) trivial rfl (dom0 rfl)
    · refine RT.brF rfl ?_
      refine RT.brF rfl ?_
      refine RT.brF rfl ?_
      exact RT.done rfl rfl (Le.refl _) trivial rfl (dom0 rfl)
  · refine RT.brF rfl ?_
    refine RT.brF rfl ?_
    refine RT.brF rfl ?_
    refine RT.brF rfl ?_
    refine RT.brF rfl ?_
    refine RT.brF rfl ?_
    refine RT.brF rfl ?_
    refine RT.brF rfl ?_
    refine RT.brF rfl ?_
    exact RT.done rfl rfl (Le.refl _) trivial rfl (dom0 rfl)
/-! ### kit_Has: function 82 -/
def kit_Has.f (a0_0 : Int) (a0_1 : Int) (a1 : Int) : Option (Bool) := (if a0_0 ≤ a1 then Option.some (decide (a1 < a0_1)) else Option.some false)
theorem kit_Has.ok (a0_0 : Int) (a0_1 : Int) (a1 : Int) (r : Bool) (h : kit_Has.f a0_0 a0_1 a1 = some r) : Ct Tryz.prog B 82 [.agg [.int .i64 a0_0, .int .i64 a0_1], .int .i64 a1] (ofL []) (.bool r) (ofL []) := by
  refine Ct.of (Y := (fam Tryz.f82 [] [] [] (fun r : Bool => .bool r) (fun r => []))) Tryz.func82 rfl Tryz.call82 rfl rfl ?_ r h
  unfold kit_Has.f
  refine RS.go ?_
  refine RT.br rfl (fun c1 => ?_) (fun c1 => ?_)
  · refine RT.brT rfl ?_
    refine RT.brT rfl ?_
    refine RT.brT rfl ?_
    refine RT.brT rfl ?_
    exact RT.done rfl rfl (Le.refl _) trivial rfl (dom0 rfl)
  · refine RT.brF rfl ?_
    refine RT.brF rfl ?_
    refine RT.brF rfl ?_
    refine RT.brF rfl ?_
    exact RT.done rfl rfl (Le.refl _) trivial rfl (dom0 rfl)
/-! ### rate_CheckTimes: function 53 -/
def rate_CheckTimes.l0 : Nat → List Int → Int → Int → Int → Option (Int)
  | 0, _, _, _, _ => Option.none
  | k + 1, l0, a1_0, a1_1, x15 => (if x15 < (l0.length : Int) then (if 0 ≤ x15 then (if x15 < (l0.length : Int) then ((kit_Has.f a1_0 a1_1 (rd l0 x15)).bind fun r4 => (if r4 = true then (if x15 > 0 then (if 0 ≤ wrap64 (x15 - 1) then (if wrap64 (x15 - 1) < (l0.length : Int) then (if (rd l0 x15) < (rd l0 (wrap64 (x15 - 1))) then Option.some 7 else rate_CheckTimes.l0 k l0 a1_0 a1_1 (wrap64 (x15 + 1))) else Option.none) else Option.none) else rate_CheckTimes.l0 k l0 a1_0 a1_1 (wrap64 (x15 + 1))) else Option.some 1)) else Option.none) else Option.none) else Option.some 0)
def rate_CheckTimes.f (k : Nat) (l0 : List Int) (a1_0 : Int) (a1_1 : Int) : Option (Int) := ((kit_IsTime.f a1_0 a1_1).bind fun r1 => (if r1 = true then (if (l0.length : Int) > 2000 then Option.some 2 else rate_CheckTimes.l0 k l0 a1_0 a1_1 0) else Option.some 1))
theorem rate_CheckTimes.loops : ∀ k, (∀ (l0 : List Int) (a1_0 : Int) (a1_1 : Int) (x15 : Int), RS (fam Tryz.f53 [] [] [] (fun r : Int => .int .i64 r) (fun r => [])) (Func.head Tryz.f53 0) ⟨ofT [(0, sq eI l0), (3, .ref 3 0 0 0 2), (13, sq eI l0), (14, .int .i64 (l0.length : Int)), (15, .int .i64 x15)], ofL [(3, .box [.int .i64 a1_0, .int .i64 a1_1])]⟩ (rate_CheckTimes.l0 k l0 a1_0 a1_1 x15))
  | 0 => by intro _ _ _ _; simp only [rate_CheckTimes.l0]; exact RS.none
  | k + 1 => by
    have ih := rate_CheckTimes.loops k
    · intro l0 a1_0 a1_1 x15
      simp only [rate_CheckTimes.l0]
      refine RS.go ?_
      refine RT.br rfl (fun c10 => ?_) (fun c10 => ?_)
      · refine RT.br rfl (fun c2 => ?_) (fun c2 => RT.none)
        refine RT.br rfl (fun c3 => ?_) (fun c3 => RT.none)
        refine RT.call0 rfl (fun _ h => kit_Has.ok a1_0 a1_1 (rd l0 x15) _ h) (LeL.eq rfl) (fun _ => rfl) (fun r4 => ?_)
        refine RS.go ?_
        refine RT.brBN rfl (fun c9 => ?_) (fun c9 => ?_)
        · refine RT.br rfl (fun c8 => ?_) (fun c8 => ?_)
          · refine RT.brT rfl ?_
            refine RT.brT rfl ?_
            refine RT.brT rfl ?_
            refine RT.brT rfl ?_
            refine RT.br rfl (fun c5 => ?_) (fun c5 => RT.none)
            refine RT.br rfl (fun c6 => ?_) (fun c6 => RT.none)
            refine RT.brT rfl ?_
            refine RT.brT rfl ?_
            refine RT.brT rfl ?_
            refine RT.br rfl (fun c7 => ?_) (fun c7 => ?_)
            · exact RT.done rfl rfl (Le.refl _) trivial rfl (dom0 rfl)
            · refine RT.goto rfl ?_
              refine RS.weak [(0, sq eI l0), (3, .ref 3 0 0 0 2), (13, sq eI l0), (14, .int .i64 (l0.length : Int)), (15, .int .i64 (wrap64 (x15 + 1)))] [(3, .box [.int .i64 a1_0, .int .i64 a1_1])] ⟨Le.eq (by first | rfl | simp), Le.eq (by first | rfl | simp), Le.eq (by first | rfl | simp), Le.eq (by first | rfl | simp), Le.eq (by first | rfl | simp), trivial⟩ ⟨⟨_, rfl, LeO.refl _⟩, trivial⟩ rfl (dom0 rfl) ?_
              exact ih l0 a1_0 a1_1 (wrap64 (x15 + 1)) 
          · refine RT.brF rfl ?_
            refine RT.brF rfl ?_
            refine RT.brF rfl ?_
            refine RT.brF rfl ?_
            refine RT.brF rfl ?_
            refine RT.brF rfl ?_
            refine RT.brF rfl ?_
            refine RT.brF rfl ?_
            refine RT.goto rfl ?_
            refine RS.weak [(0, sq eI l0), (3, .ref 3 0 0 0 2), (13, sq eI l0), (14, .int .i64 (l0.length : Int)), (15, .int .i64 (wrap64 (x15 + 1)))] [(3, .box [.int .i64 a1_0, .int .i64 a1_1])] ⟨Le.eq (by first | rfl | simp), Le.eq (by first | rfl | simp), Le.eq (by first | rfl | simp), Le.eq (by first | rfl | simp), Le.eq (by first | rfl | simp), trivial⟩ ⟨⟨_, rfl, LeO.refl _⟩, trivial⟩ rfl (dom0 rfl) ?_
            exact ih l0 a1_0 a1_1 (wrap64 (x15 + 1)) 
        · exact RT.done rfl rfl (Le.refl _) trivial rfl (dom0 rfl)
      · exact RT.done rfl rfl (Le.refl _) trivial rfl (dom0 rfl)
theorem rate_CheckTimes.ok (k : Nat) (l0 : List Int) (a1_0 : Int) (a1_1 : Int) (r : Int) (h : rate_CheckTimes.f k l0 a1_0 a1_1 = some r) : Ct Tryz.prog B 53 [sq eI l0, .agg [.int .i64 a1_0, .int .i64 a1_1]] (ofL []) (.int .i64 r) (ofL []) := by
  refine Ct.of (Y := (fam Tryz.f53 [] [] [] (fun r : Int => .int .i64 r) (fun r => []))) Tryz.func53 rfl Tryz.call53 rfl rfl ?_ r h
  unfold rate_CheckTimes.f
  refine RS.go ?_
  refine RT.call0 rfl (fun _ h => kit_IsTime.ok a1_0 a1_1 _ h) (LeL.eq rfl) (fun _ => rfl) (fun r1 => ?_)
  refine RS.go ?_
  refine RT.brBN rfl (fun c12 => ?_) (fun c12 => ?_)
  · refine RT.br rfl (fun c11 => ?_) (fun c11 => ?_)
    · exact RT.done rfl rfl (Le.refl _) trivial rfl (dom0 rfl)
    · refine RT.goto rfl ?_
      refine RS.weak [(0, sq eI l0), (3, .ref 3 0 0 0 2), (13, sq eI l0), (14, .int .i64 (l0.length : Int)), (15, .int .i64 0)] [(3, .box [.int .i64 a1_0, .int .i64 a1_1])] ⟨Le.eq (by first | rfl | simp), Le.eq (by first | rfl | simp), Le.eq (by first | rfl | simp), Le.eq (by first | rfl | simp), Le.eq (by first | rfl | simp), trivial⟩ ⟨⟨_, rfl, LeO.refl _⟩, trivial⟩ rfl (dom0 rfl) ?_
      exact rate_CheckTimes.loops k l0 a1_0 a1_1 0 
  · exact RT.done rfl rfl (Le.refl _) trivial rfl (dom0 rfl)
/-! ### rate_isLong: function 54 -/
def rate_isLong.f (a0 : Int) : Option (Bool) := ((kit_Outside.f a0 60000 86400000).bind fun r1 => Option.some (!r1))
theorem rate_isLong.ok (a0 : Int) (r : Bool) (h : rate_isLong.f a0 = some r) : Ct Tryz.prog B 54 [.int .i64 a0] (ofL []) (.bool r) (ofL []) := by
  refine Ct.of (Y := (fam Tryz.f54 [] [] [] (fun r : Bool => .bool r) (fun r => []))) Tryz.func54 rfl Tryz.call54 rfl rfl ?_ r h
  unfold rate_isLong.f
  refine RS.go ?_
  refine RT.call0 rfl (fun _ h => kit_Outside.ok a0 60000 86400000 _ h) (LeL.eq rfl) (fun _ => rfl) (fun r1 => ?_)
  refine RS.go ?_
  exact RT.done rfl rfl (Le.refl _) trivial rfl (dom0 rfl)
/-! ### cmp_isNaN_int: function 133 -/
def cmp_isNaN_int.f (a0 : Int) : Option (Bool) := Option.some (!decide (a0 = a0))
theorem cmp_isNaN_int.ok (a0 : Int) (r : Bool) (h : cmp_isNaN_int.f a0 = some r) : Ct Tryz.prog B 133 [.int .i64 a0] (ofL []) (.bool r) (ofL []) := by
  refine Ct.of (Y := (fam Tryz.f133 [] [] [] (fun r : Bool => .bool r) (fun r => []))) Tryz.func133 rfl Tryz.call133 rfl rfl ?_ r h
  unfold cmp_isNaN_int.f
  refine RS.go ?_
  exact RT.done rfl rfl (Le.refl _) trivial rfl (dom0 rfl)
/-! ### cmp_Less_int: function 113 -/
def cmp_Less_int.f (a0 : Int) (a1 : Int) : Option (Bool) := ((cmp_isNaN_int.f a0).bind fun r1 => (if r1 = true then ((cmp_isNaN_int.f a1).bind fun r2 => (if r2 = true then Option.some (decide (a0 < a1)) else Option.some true)) else Option.some (decide (a0 < a1))))
theorem cmp_Less_int.ok (a0 : Int) (a1 : Int) (r : Bool) (h : cmp_Less_int.f a0 a1 = some r) : Ct Tryz.prog B 113 [.int .i64 a0, .int .i64 a1] (ofL []) (.bool r) (ofL []) := by
  refine Ct.of (Y := (fam Tryz.f113 [] [] [] (fun r : Bool => .bool r) (fun r => []))) Tryz.func113 rfl Tryz.call113 rfl rfl ?_ r h
  unfold cmp_Less_int.f
  refine RS.go ?_
  refine RT.call0 rfl (fun _ h => cmp_isNaN_int.ok a0 _ h) (LeL.eq rfl) (fun _ => rfl) (fun r1 => ?_)
  refine RS.go ?_
  refine RT.brB rfl (fun c4 => ?_) (fun c4 => ?_)
  · refine RT.brT rfl ?_
    refine RT.call0 rfl (fun _ h => cmp_isNaN_int.ok a1 _ h) (LeL.eq rfl) (fun _ => rfl) (fun r2 => ?_)
    refine RS.go ?_
    refine RT.brT rfl ?_
    refine RT.brT rfl ?_
    refine RT.brBN rfl (fun c3 => ?_) (fun c3 => ?_)
    · refine RT.brF rfl ?_
      refine RT.brF rfl ?_
      refine RT.brF rfl ?_
      exact RT.done rfl rfl (Le.refl _) trivial rfl (dom0 rfl)
    · refine RT.brT rfl ?_
      refine RT.brT rfl ?_
      refine RT.brT rfl ?_
      exact RT.done rfl rfl (Le.refl _) trivial rfl (dom0 rfl)
  · refine RT.brF rfl ?_
    refine RT.brF rfl ?_
    refine RT.brF rfl ?_
    refine RT.brF rfl ?_
    refine RT.brF rfl ?_
    refine RT.brF rfl ?_
    refine RT.brF rfl ?_
    exact RT.done rfl rfl (Le.refl _) trivial rfl (dom0 rfl)
/-! ### slices_isNaN_int: function 114 -/
def slices_isNaN_int.f (a0 : Int) : Option (Bool) := Option.some (!decide (a0 = a0))
theorem slices_isNaN_int.ok (a0 : Int) (r : Bool) (h : slices_isNaN_int.f a0 = some r) : Ct Tryz.prog B 114 [.int .i64 a0] (ofL []) (.bool r) (ofL []) := by
  refine Ct.of (Y := (fam Tryz.f114 [] [] [] (fun r : Bool => .bool r) (fun r => []))) Tryz.func114 rfl Tryz.call114 rfl rfl ?_ r h
  unfold slices_isNaN_int.f
  refine RS.go ?_
  exact RT.done rfl rfl (Le.refl _) trivial rfl (dom0 rfl)
/-! ### slices_BinarySearch_int_int: function 97 -/
def slices_BinarySearch_int_int.l0 : Nat → List Int → Int → Int → Int → Option (Int × Bool)
  | 0, _, _, _, _ => Option.none
  | k + 1, l0, a1, x7, x8 => (if x7 < x8 then (if 0 ≤ wrap64 (Int.fdiv (IntKind.u64.wrap (wrap64 (x7 + x8))) (2 ^ (min (Int.toNat 1) 64))) then (if wrap64 (Int.fdiv (IntKind.u64.wrap (wrap64 (x7 + x8))) (2 ^ (min (Int.toNat 1) 64))) < (l0.length : Int) then ((cmp_Less_int.f (rd l0 (wrap64 (Int.fdiv (IntKind.u64.wrap (wrap64 (x7 + x8))) (2 ^ (min (Int.toNat 1) 64))))) a1).bind fun r3 => (if r3 = true then slices_BinarySearch_int_int.l0 k l0 a1 (wrap64 ((wrap64 (Int.fdiv (IntKind.u64.wrap (wrap64 (x7 + x8))) (2 ^ (min (Int.toNat 1) 64)))) + 1)) x8 else slices_BinarySearch_int_int.l0 k l0 a1 x7 (wrap64 (Int.fdiv (IntKind.u64.wrap (wrap64 (x7 + x8))) (2 ^ (min (Int.toNat 1) 64)))))) else Option.none) else Option.none) else (if x7 < (l0.length : Int) then (if 0 ≤ x7 then (if x7 < (l0.length : Int) then (if (rd l0 x7) = a1 then Option.some (x7, true) else (if 0 ≤ x7 then (if x7 < (l0.length : Int) then ((slices_isNaN_int.f (rd l0 x7)).bind fun r9 => (if r9 = true then ((slices_isNaN_int.f a1).bind fun r10 => Option.some (x7, r10)) else Option.some (x7, false))) else Option.none) else Option.none)) else Option.none) else Option.none) else Option.some (x7, false)))
def slices_BinarySearch_int_int.f (k : Nat) (l0 : List Int) (a1 : Int) : Option (Int × Bool) := slices_BinarySearch_int_int.l0 k l0 a1 0 (l0.length : Int)
theorem slices_BinarySearch_int_int.loops : ∀ k, (∀ (l0 : List Int) (a1 : Int) (x7 : Int) (x8 : Int), RS (fam Tryz.f97 [] [] [] (fun r : Int × Bool => .tup [.int .i64 r.1, .bool r.2]) (fun r => [])) (Func.head Tryz.f97 0) ⟨ofT [(0, sq eI l0), (1, .int .i64 a1), (6, .int .i64 (l0.length : Int)), (7, .int .i64 x7), (8, .int .i64 x8)], ofL []⟩ (slices_BinarySearch_int_int.l0 k l0 a1 x7 x8))
  | 0 => by intro _ _ _ _; simp only [slices_BinarySearch_int_int.l0]; exact RS.none
  | k + 1 => by
    have ih := slices_BinarySearch_int_int.loops k
    · intro l0 a1 x7 x8
      simp only [slices_BinarySearch_int_int.l0]
      refine RS.go ?_
      refine RT.br rfl (fun c14 => ?_) (fun c14 => ?_)
      · refine RT.brF rfl ?_
        refine RT.br rfl (fun c1 => ?_) (fun c1 => RT.none)
        refine RT.br rfl (fun c2 => ?_) (fun c2 => RT.none)
        refine RT.call0 rfl (fun _ h => cmp_Less_int.ok (rd l0 (wrap64 (Int.fdiv (IntKind.u64.wrap (wrap64 (x7 + x8))) (2 ^ (min (Int.toNat 1) 64))))) a1 _ h) (LeL.eq rfl) (fun _ => rfl) (fun r3 => ?_)
        refine RS.go ?_
        refine RT.brB rfl (fun c4 => ?_) (fun c4 => ?_)
        · refine RT.goto rfl ?_
          refine RS.weak [(0, sq eI l0), (1, .int .i64 a1), (6, .int .i64 (l0.length : Int)), (7, .int .i64 (wrap64 ((wrap64 (Int.fdiv (IntKind.u64.wrap (wrap64 (x7 + x8))) (2 ^ (min (Int.toNat 1) 64)))) + 1))), (8, .int .i64 x8)] [] ⟨Le.eq (by first | rfl | simp), Le.eq (by first | rfl | simp), Le.eq (by first | rfl | simp), Le.eq (by first | rfl | simp), Le.eq (by first | rfl | simp), trivial⟩ trivial rfl (dom0 rfl) ?_
          exact ih l0 a1 (wrap64 ((wrap64 (Int.fdiv (IntKind.u64.wrap (wrap64 (x7 + x8))) (2 ^ (min (Int.toNat 1) 64)))) + 1)) x8 
        · refine RT.goto rfl ?_
          refine RS.weak [(0, sq eI l0), (1, .int .i64 a1), (6, .int .i64 (l0.length : Int)), (7, .int .i64 x7), (8, .int .i64 (wrap64 (Int.fdiv (IntKind.u64.wrap (wrap64 (x7 + x8))) (2 ^ (min (Int.toNat 1) 64)))))] [] ⟨Le.eq (by first | rfl | simp), Le.eq (by first | rfl | simp), Le.eq (by first | rfl | simp), Le.eq (by first | rfl | simp), Le.eq (by first | rfl | simp), trivial⟩ trivial rfl (dom0 rfl) ?_
          exact ih l0 a1 x7 (wrap64 (Int.fdiv (IntKind.u64.wrap (wrap64 (x7 + x8))) (2 ^ (min (Int.toNat 1) 64)))) 
      · refine RT.br rfl (fun c13 => ?_) (fun c13 => ?_)
        · refine RT.brT rfl ?_
          refine RT.brT rfl ?_
          refine RT.br rfl (fun c5 => ?_) (fun c5 => RT.none)
          refine RT.br rfl (fun c6 => ?_) (fun c6 => RT.none)
          refine RT.brT rfl ?_
          refine RT.brT rfl ?_
          refine RT.brT rfl ?_
          refine RT.brT rfl ?_
          refine RT.br rfl (fun c12 => ?_) (fun c12 => ?_)
          · refine RT.brT rfl ?_
            refine RT.brT rfl ?_
            refine RT.brT rfl ?_
            refine RT.brT rfl ?_
            refine RT.brT rfl ?_
            refine RT.brT rfl ?_
            refine RT.brT rfl ?_
            refine RT.brT rfl ?_
            refine RT.brT rfl ?_
            exact RT.done rfl rfl (Le.tup (LeL.cons (Le.refl _) (LeL.cons (Le.refl _) (LeL.nil)))) trivial rfl (dom0 rfl)
          · refine RT.brF rfl ?_
            refine RT.brF rfl ?_
            refine RT.br rfl (fun c7 => ?_) (fun c7 => RT.none)
            refine RT.br rfl (fun c8 => ?_) (fun c8 => RT.none)
            refine RT.brF rfl ?_
            refine RT.brF rfl ?_
            refine RT.call0 rfl (fun _ h => slices_isNaN_int.ok (rd l0 x7) _ h) (LeL.eq rfl) (fun _ => rfl) (fun r9 => ?_)
            refine RS.go ?_
            refine RT.brF rfl ?_
            refine RT.brB rfl (fun c11 => ?_) (fun c11 => ?_)
            · refine RT.brT rfl ?_
              refine RT.call0 rfl (fun _ h => slices_isNaN_int.ok a1 _ h) (LeL.eq rfl) (fun _ => rfl) (fun r10 => ?_)
              refine RS.go ?_
              refine RT.brF rfl ?_
              refine RT.brT rfl ?_
              refine RT.brT rfl ?_
              refine RT.brF rfl ?_
              refine RT.brT rfl ?_
              exact RT.done rfl rfl (Le.tup (LeL.cons (Le.refl _) (LeL.cons (Le.refl _) (LeL.nil)))) trivial rfl (dom0 rfl)
            · refine RT.brF rfl ?_
              refine RT.brF rfl ?_
              refine RT.brF rfl ?_
              refine RT.brT rfl ?_
              refine RT.brF rfl ?_
              refine RT.brT rfl ?_
              exact RT.done rfl rfl (Le.tup (LeL.cons (Le.refl _) (LeL.cons (Le.refl _) (LeL.nil)))) trivial rfl (dom0 rfl)
        · refine RT.brF rfl ?_
          refine RT.brF rfl ?_
          refine RT.brF rfl ?_
          refine RT.brF rfl ?_
          refine RT.brF rfl ?_
          refine RT.brF rfl ?_
          refine RT.brF rfl ?_
          refine RT.brF rfl ?_
          exact RT.done rfl rfl (Le.tup (LeL.cons (Le.refl _) (LeL.cons (Le.refl _) (LeL.nil)))) trivial rfl (dom0 rfl)
theorem slices_BinarySearch_int_int.ok (k : Nat) (l0 : List Int) (a1 : Int) (r : Int × Bool) (h : slices_BinarySearch_int_int.f k l0 a1 = some r) : Ct Tryz.prog B 97 [sq eI l0, .int .i64 a1] (ofL []) (.tup [.int .i64 r.1, .bool r.2]) (ofL []) := by
  refine Ct.of (Y := (fam Tryz.f97 [] [] [] (fun r : Int × Bool => .tup [.int .i64 r.1, .bool r.2]) (fun r => []))) Tryz.func97 rfl Tryz.call97 rfl rfl ?_ r h
  unfold slices_BinarySearch_int_int.f
  refine RS.go ?_
  refine RT.goto rfl ?_
  refine RS.weak [(0, sq eI l0), (1, .int .i64 a1), (6, .int .i64 (l0.length : Int)), (7, .int .i64 0), (8, .int .i64 (l0.length : Int))] [] ⟨Le.eq (by first | rfl | simp), Le.eq (by first | rfl | simp), Le.eq (by first | rfl | simp), Le.eq (by first | rfl | simp), Le.eq (by first | rfl | simp), trivial⟩ trivial rfl (dom0 rfl) ?_
  exact slices_BinarySearch_int_int.loops k l0 a1 0 (l0.length : Int) 
/-! ### rate_before: function 83 -/
def rate_before.f (k : Nat) (l0 : List Int) (a1 : Int) : Option (Int) := ((slices_BinarySearch_int_int.f k l0 a1).bind fun r1 => Option.some r1.1)
theorem rate_before.ok (k : Nat) (l0 : List Int) (a1 : Int) (r : Int) (h : rate_before.f k l0 a1 = some r) : Ct Tryz.prog B 83 [sq eI l0, .int .i64 a1] (ofL []) (.int .i64 r) (ofL []) := by
  refine Ct.of (Y := (fam Tryz.f83 [] [] [] (fun r : Int => .int .i64 r) (fun r => []))) Tryz.func83 rfl Tryz.call83 rfl rfl ?_ r h
  unfold rate_before.f
  refine RS.go ?_
  refine RT.call0 rfl (fun _ h => slices_BinarySearch_int_int.ok k l0 a1 _ h) (LeL.eq rfl) (fun _ => rfl) (fun r1 => ?_)
  refine RS.go ?_
  exact RT.done rfl rfl (Le.refl _) trivial rfl (dom0 rfl)
/-! ### rate_in: function 55 -/
def rate_in.k0 : List DK := [⟨[14], [], [4], []⟩, ⟨[13], [], [14], []⟩, ⟨[8, 12], [], [13], []⟩, ⟨[9, 11], [], [12], []⟩, ⟨[10], [3], [11], []⟩, ⟨[3], [3], [10], []⟩, ⟨[0], [], [9], []⟩, ⟨[5, 7], [], [8], []⟩, ⟨[6], [3], [7], []⟩, ⟨[3], [3], [6], []⟩, ⟨[0], [], [5], []⟩]
def rate_in.k1 : List Nat := [0, 0, 2, 7, 0, 0, 32, 127, 255, 511, 1023]
def rate_in.f (k : Nat) (l0 : List Int) (a1_0 : Int) (a1_1 : Int) : Option (Int) := ((rate_before.f k l0 a1_1).bind fun r1 => ((rate_before.f k l0 a1_0).bind fun r2 => Option.some (mx 0 (wrap64 (r1 - r2)))))
theorem rate_in.ok (k : Nat) (l0 : List Int) (a1_0 : Int) (a1_1 : Int) (r : Int) (h : rate_in.f k l0 a1_0 a1_1 = some r) : Ct Tryz.prog B 55 [sq eI l0, .agg [.int .i64 a1_0, .int .i64 a1_1]] (ofL []) (.int .i64 r) (ofL []) := by
  refine Ct.of (Y := (fam Tryz.f55 [] [] [] (fun r : Int => .int .i64 r) (fun r => []))) Tryz.func55 rfl Tryz.call55 rfl rfl ?_ r h
  unfold rate_in.f
  refine RS.go ?_
  refine RT.goto rfl ?_
  refine RS.draw rfl ?_
  refine RD.call (CR := []) (CW := (fun r => [])) rfl (fun _ h => rate_before.ok k l0 a1_1 _ h) (fun i => i) trivial (fun _ => rfl) ⟨_, _, _, _, rfl, rfl, rfl⟩ (LeL.eq rfl) trivial (fun _ => rfl) (fun r1 => ?_)
  refine RD.call (CR := []) (CW := (fun r => [])) rfl (fun _ h => rate_before.ok k l0 a1_0 _ h) (fun i => i) trivial (fun _ => rfl) ⟨_, _, _, _, rfl, rfl, rfl⟩ (LeL.eq rfl) trivial (fun _ => rfl) (fun r2 => ?_)
  refine RD.fin rate_in.k0 rate_in.k1 rfl rfl (by decide +kernel) ?_
  refine RS.go ?_
  exact RT.done rfl rfl (Le.refl _) trivial rfl (dom0 rfl)
end Go.EV
