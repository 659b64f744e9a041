/- Printed by a program of this session: a Lean function for each function that the law reaches, and that the code comes to it. -/
import Derived.Test.YtmcaongkodmbjaaGreatDoorEvS
set_option linter.unusedVariables false
set_option linter.unusedSimpArgs false
namespace Go.EV
open Go Go.Proofs Go.RowKit
set_option maxHeartbeats 4000000
set_option maxRecDepth 100000
set_option linter.unusedVariables false
def str_0 : ByteArray := ⟨#[97, 98, 99, 100, 101, 102, 103, 104, 105, 106, 107, 108, 109, 110, 111, 112, 113, 114, 115, 116, 117, 118, 119, 120, 121, 122, 48, 49, 50, 51, 52, 53, 54, 55, 56, 57, 45, 95]⟩
def str_1 : ByteArray := ⟨#[97, 98, 99, 100, 101, 102, 103, 104, 105, 106, 107, 108, 109, 110, 111, 112, 113, 114, 115, 116, 117, 118, 119, 120, 121, 122]⟩
def str_2 : ByteArray := ⟨#[97, 32, 46, 45, 32, 98, 32, 45, 46, 46, 46, 32, 99, 32, 45, 46, 45, 46, 32, 100, 32, 45, 46, 46, 32, 101, 32, 46, 32, 102, 32, 46, 46, 45, 46, 32, 103, 32, 45, 45, 46, 32, 104, 32, 46, 46, 46, 46, 32, 105, 32, 46, 46, 32, 106, 32, 46, 45, 45, 45, 32, 107, 32, 45, 46, 45, 32, 108, 32, 46, 45, 46, 46, 32, 109, 32, 45, 45, 32, 110, 32, 45, 46, 32, 111, 32, 45, 45, 45, 32, 112, 32, 46, 45, 45, 46, 32, 113, 32, 45, 45, 46, 45, 32, 114, 32, 46, 45, 46, 32, 115, 32, 46, 46, 46, 32, 116, 32, 45, 32, 117, 32, 46, 46, 45, 32, 118, 32, 46, 46, 46, 45, 32, 119, 32, 46, 45, 45, 32, 120, 32, 45, 46, 46, 45, 32, 121, 32, 45, 46, 45, 45, 32, 122, 32, 45, 45, 46, 46, 32, 48, 32, 45, 45, 45, 45, 45, 32, 49, 32, 46, 45, 45, 45, 45, 32, 50, 32, 46, 46, 45, 45, 45, 32, 51, 32, 46, 46, 46, 45, 45, 32, 52, 32, 46, 46, 46, 46, 45, 32, 53, 32, 46, 46, 46, 46, 46, 32, 54, 32, 45, 46, 46, 46, 46, 32, 55, 32, 45, 45, 46, 46, 46, 32, 56, 32, 45, 45, 45, 46, 46, 32, 57, 32, 45, 45, 45, 45, 46, 32, 47, 32, 45, 46, 46, 45, 46, 32, 63, 32, 46, 46, 45, 45, 46, 46, 32, 61, 32, 45, 46, 46, 46, 45, 32, 43, 32, 46, 45, 46, 45, 46]⟩
def e_IS.c : (Int × ByteArray) → Nat → AV
  | x, 0 => .int .i64 x.1
  | x, _ => .str x.2
def e_IS : Enc (Int × ByteArray) := ⟨2, (0, ByteArray.empty), e_IS.c⟩
def e_SS.c : (ByteArray × ByteArray) → Nat → AV
  | x, 0 => .str x.1
  | x, _ => .str x.2
def e_SS : Enc (ByteArray × ByteArray) := ⟨2, (ByteArray.empty, ByteArray.empty), e_SS.c⟩
def e_L.c : List ByteArray → Nat → AV
  | x, _ => sq eS x
def e_L : Enc (List ByteArray) := ⟨1, [], e_L.c⟩
def e_SII.c : (ByteArray × Int × Int) → Nat → AV
  | x, 0 => .str x.1
  | x, 1 => .int .i64 x.2.1
  | x, _ => .int .i64 x.2.2
def e_SII : Enc (ByteArray × Int × Int) := ⟨3, (ByteArray.empty, 0, 0), e_SII.c⟩
/-! ### pilemake_Below: function 48 -/
def pilemake_Below.j6 : Nat → Int → Option (Int)
  | 0, _ => Option.none
  | k + 1, x0j6 => Option.some x0j6
def pilemake_Below.f (k : Nat) (a0 : Int) (a1 : Int) : Option (Int) := (if a1 < 1 then Option.some 0 else (if a1 = 0 then Option.none else (if Int.tmod a0 a1 < 0 then pilemake_Below.j6 k (wrap64 ((Int.tmod a0 a1) + a1)) else pilemake_Below.j6 k (Int.tmod a0 a1))))
theorem pilemake_Below.loops : ∀ k, (∀ (x0j6 : Int), RS (fam Tryz.f48 [6] [] [] (fun r : Int => .int .i64 r) (fun r => [])) (Func.reg Tryz.f48 6) ⟨ofT [(0, .int .i64 x0j6)], ofL []⟩ (pilemake_Below.j6 k x0j6))
  | 0 => by intro _; simp only [pilemake_Below.j6]; exact RS.none
  | k + 1 => by
    have ih := pilemake_Below.loops k
    · intro x0j6
      simp only [pilemake_Below.j6]
      refine RS.region ?_
      refine RS.go ?_
      exact RT.done rfl rfl (Le.refl _) trivial rfl (dom0 rfl)
theorem pilemake_Below.ok (k : Nat) (a0 : Int) (a1 : Int) (r : Int) (h : pilemake_Below.f k a0 a1 = some r) : Ct Tryz.prog B 48 [.int .i64 a0, .int .i64 a1] (ofL []) (.int .i64 r) (ofL []) := by
  refine Ct.of (Y := (fam Tryz.f48 [6] [] [] (fun r : Int => .int .i64 r) (fun r => []))) Tryz.func48 rfl Tryz.call48 rfl rfl ?_ r h
  unfold pilemake_Below.f
  refine RS.go ?_
  refine RT.br rfl (fun c3 => ?_) (fun c3 => ?_)
  · exact RT.done rfl rfl (Le.refl _) trivial rfl (dom0 rfl)
  · refine RT.br rfl (fun _ => RT.none) (fun c2 => ?_)
    refine RT.br rfl (fun c1 => ?_) (fun c1 => ?_)
    · refine RT.goto rfl ?_
      refine RS.weak [(0, .int .i64 (wrap64 ((Int.tmod a0 a1) + a1)))] [] ⟨Le.eq (by first | rfl | simp), trivial⟩ trivial rfl (dom0 rfl) ?_
      exact pilemake_Below.loops k (wrap64 ((Int.tmod a0 a1) + a1)) 
    · refine RT.goto rfl ?_
      refine RS.weak [(0, .int .i64 (Int.tmod a0 a1))] [] ⟨Le.eq (by first | rfl | simp), trivial⟩ trivial rfl (dom0 rfl) ?_
      exact pilemake_Below.loops k (Int.tmod a0 a1) 
/-! ### pilemake_Stream_Next: function 23 -/
def pilemake_Stream_Next.k0 : List DK := [⟨[48], [], [6], []⟩, ⟨[42, 47], [], [48], []⟩, ⟨[46], [], [47], []⟩, ⟨[45], [100000], [46], []⟩, ⟨[44], [100000], [45], []⟩, ⟨[43], [100000], [44], []⟩, ⟨[0], [], [43], []⟩, ⟨[41], [], [42], []⟩, ⟨[40], [100000], [41], []⟩, ⟨[39], [100000], [40], []⟩, ⟨[38], [100000], [39], []⟩, ⟨[0], [], [38], []⟩]
def pilemake_Stream_Next.k1 : List Nat := [0, 1, 3, 7, 15, 0, 32, 96, 224, 480, 1023, 2047]
def pilemake_Stream_Next.k2 : List DK := [⟨[37], [], [5], []⟩, ⟨[31, 36], [], [37], []⟩, ⟨[35], [], [36], []⟩, ⟨[34], [100000], [35], []⟩, ⟨[33], [100000], [34], []⟩, ⟨[32], [100000], [33], []⟩, ⟨[0], [], [32], []⟩, ⟨[30], [], [31], []⟩, ⟨[29], [100000], [30], []⟩, ⟨[28], [100000], [29], []⟩, ⟨[27], [100000], [28], []⟩, ⟨[0], [], [27], []⟩]
def pilemake_Stream_Next.f (k : Nat) (p0_0 : List Int) (p0_1 : Int) (a1 : Int) : Option (Int × (List Int) × Int) := (if (p0_0.length : Int) = 0 then ((pilemake_Below.f k (wrap64 ((wrap64 (p0_1 + 1)) * 7919)) a1).bind fun r1 => Option.some (r1, p0_0, wrap64 (p0_1 + 1))) else (if (p0_0.length : Int) = 0 then Option.none else (if (p0_0.length : Int) = 0 then Option.none else (if 0 ≤ Int.tmod (wrap64 ((wrap64 (p0_1 + 1)) - 1)) (p0_0.length : Int) then (if Int.tmod (wrap64 ((wrap64 (p0_1 + 1)) - 1)) (p0_0.length : Int) < (p0_0.length : Int) then ((pilemake_Below.f k (rd p0_0 (Int.tmod (wrap64 ((wrap64 (p0_1 + 1)) - 1)) (p0_0.length : Int))) 1073741824).bind fun r4 => ((pilemake_Below.f k (wrap64 (r4 + (wrap64 ((wrap64 (Int.tdiv (wrap64 ((wrap64 (p0_1 + 1)) - 1)) (p0_0.length : Int))) * (wrap64 (7919 + (Int.tmod (wrap64 ((wrap64 (p0_1 + 1)) - 1)) (p0_0.length : Int)))))))) a1).bind fun r5 => Option.some (r5, p0_0, wrap64 (p0_1 + 1)))) else Option.none) else Option.none))))
theorem pilemake_Stream_Next.ok (k : Nat) (p0_0 : List Int) (p0_1 : Int) (a1 : Int) (r : Int × (List Int) × Int) (h : pilemake_Stream_Next.f k p0_0 p0_1 a1 = some r) : Ct Tryz.prog B 23 [.ref 100000 0 0 0 2, .int .i64 a1] (ofL [(100000, .box [sq eI p0_0, .int .i64 p0_1])]) (.int .i64 r.1) (ofL [(100000, .box [sq eI r.2.1, .int .i64 r.2.2])]) := by
  refine Ct.of (Y := (fam Tryz.f23 [] [] [(100000, .box [sq eI p0_0, .int .i64 p0_1])] (fun r : Int × (List Int) × Int => .int .i64 r.1) (fun r => [(100000, .box [sq eI r.2.1, .int .i64 r.2.2])]))) Tryz.func23 rfl Tryz.call23 rfl rfl ?_ r h
  unfold pilemake_Stream_Next.f
  refine RS.go ?_
  refine RT.br rfl (fun c8 => ?_) (fun c8 => ?_)
  · refine RT.call0 rfl (fun _ h => pilemake_Below.ok k (wrap64 ((wrap64 (p0_1 + 1)) * 7919)) a1 _ h) (LeL.eq rfl) (fun _ => rfl) (fun r1 => ?_)
    refine RS.go ?_
    exact RT.done rfl rfl (Le.refl _) ⟨⟨_, rfl, LeO.refl _⟩, trivial⟩ rfl (dom_of rfl)
  · refine RT.goto rfl ?_
    refine RS.draw rfl ?_
    refine RD.br rfl (fun _ => RD.none) (fun c7 => ?_)
    refine RD.fin pilemake_Stream_Next.k2 pilemake_Stream_Next.k1 rfl rfl (by decide +kernel) ?_
    refine RS.go ?_
    refine RT.goto rfl ?_
    refine RS.draw rfl ?_
    refine RD.br rfl (fun _ => RD.none) (fun c6 => ?_)
    refine RD.fin pilemake_Stream_Next.k0 pilemake_Stream_Next.k1 rfl rfl (by decide +kernel) ?_
    refine RS.go ?_
    refine RT.br rfl (fun c2 => ?_) (fun c2 => RT.none)
    refine RT.br rfl (fun c3 => ?_) (fun c3 => RT.none)
    refine RT.call0 rfl (fun _ h => pilemake_Below.ok k (rd p0_0 (Int.tmod (wrap64 ((wrap64 (p0_1 + 1)) - 1)) (p0_0.length : Int))) 1073741824 _ h) (LeL.eq rfl) (fun _ => rfl) (fun r4 => ?_)
    refine RS.go ?_
    refine RT.call0 rfl (fun _ h => pilemake_Below.ok k (wrap64 (r4 + (wrap64 ((wrap64 (Int.tdiv (wrap64 ((wrap64 (p0_1 + 1)) - 1)) (p0_0.length : Int))) * (wrap64 (7919 + (Int.tmod (wrap64 ((wrap64 (p0_1 + 1)) - 1)) (p0_0.length : Int)))))))) a1 _ h) (LeL.eq rfl) (fun _ => rfl) (fun r5 => ?_)
    refine RS.go ?_
    exact RT.done rfl rfl (Le.refl _) ⟨⟨_, rfl, LeO.refl _⟩, trivial⟩ rfl (dom_of rfl)
/-! ### pilemake_Stream_Pick: function 19 -/
def pilemake_Stream_Pick.f (k : Nat) (p0_0 : List Int) (p0_1 : Int) (l1 : List Int) : Option (Int × (List Int) × Int) := ((pilemake_Stream_Next.f k p0_0 p0_1 (l1.length : Int)).bind fun r1 => (if 0 ≤ r1.1 then (if r1.1 < (l1.length : Int) then Option.some ((rd l1 r1.1), r1.2.1, r1.2.2) else Option.none) else Option.none))
theorem pilemake_Stream_Pick.ok (k : Nat) (p0_0 : List Int) (p0_1 : Int) (l1 : List Int) (r : Int × (List Int) × Int) (h : pilemake_Stream_Pick.f k p0_0 p0_1 l1 = some r) : Ct Tryz.prog B 19 [.ref 100000 0 0 0 2, sq eI l1] (ofL [(100000, .box [sq eI p0_0, .int .i64 p0_1])]) (.int .i64 r.1) (ofL [(100000, .box [sq eI r.2.1, .int .i64 r.2.2])]) := by
  refine Ct.of (Y := (fam Tryz.f19 [] [] [(100000, .box [sq eI p0_0, .int .i64 p0_1])] (fun r : Int × (List Int) × Int => .int .i64 r.1) (fun r => [(100000, .box [sq eI r.2.1, .int .i64 r.2.2])]))) Tryz.func19 rfl Tryz.call19 rfl rfl ?_ r h
  unfold pilemake_Stream_Pick.f
  refine RS.go ?_
  refine RT.call rfl (fun _ h => pilemake_Stream_Next.ok k p0_0 p0_1 (l1.length : Int) _ h) (fun i => bif Nat.beq i 100000 then 100000 else i) (LeL.eq rfl) ⟨⟨_, rfl, LeO.refl _⟩, trivial⟩ (fun _ => rfl) (fun r1 => ?_)
  refine RS.go ?_
  refine RT.br rfl (fun c2 => ?_) (fun c2 => RT.none)
  refine RT.br rfl (fun c3 => ?_) (fun c3 => RT.none)
  exact RT.done rfl rfl (Le.refl _) ⟨⟨_, rfl, LeO.refl _⟩, trivial⟩ rfl (dom_of rfl)
/-! ### pilemake_Stream_Range: function 20 -/
def pilemake_Stream_Range.f (k : Nat) (p0_0 : List Int) (p0_1 : Int) (a1 : Int) (a2 : Int) : Option (Int × (List Int) × Int) := (if a2 < a1 then Option.some (a1, p0_0, p0_1) else ((pilemake_Stream_Next.f k p0_0 p0_1 (wrap64 ((wrap64 (a2 - a1)) + 1))).bind fun r1 => Option.some (wrap64 (a1 + r1.1), r1.2.1, r1.2.2)))
theorem pilemake_Stream_Range.ok (k : Nat) (p0_0 : List Int) (p0_1 : Int) (a1 : Int) (a2 : Int) (r : Int × (List Int) × Int) (h : pilemake_Stream_Range.f k p0_0 p0_1 a1 a2 = some r) : Ct Tryz.prog B 20 [.ref 100000 0 0 0 2, .int .i64 a1, .int .i64 a2] (ofL [(100000, .box [sq eI p0_0, .int .i64 p0_1])]) (.int .i64 r.1) (ofL [(100000, .box [sq eI r.2.1, .int .i64 r.2.2])]) := by
  refine Ct.of (Y := (fam Tryz.f20 [] [] [(100000, .box [sq eI p0_0, .int .i64 p0_1])] (fun r : Int × (List Int) × Int => .int .i64 r.1) (fun r => [(100000, .box [sq eI r.2.1, .int .i64 r.2.2])]))) Tryz.func20 rfl Tryz.call20 rfl rfl ?_ r h
  unfold pilemake_Stream_Range.f
  refine RS.go ?_
  refine RT.br rfl (fun c2 => ?_) (fun c2 => ?_)
  · exact RT.done rfl rfl (Le.refl _) ⟨⟨_, rfl, LeO.refl _⟩, trivial⟩ rfl (dom_of rfl)
  · refine RT.call rfl (fun _ h => pilemake_Stream_Next.ok k p0_0 p0_1 (wrap64 ((wrap64 (a2 - a1)) + 1)) _ h) (fun i => bif Nat.beq i 100000 then 100000 else i) (LeL.eq rfl) ⟨⟨_, rfl, LeO.refl _⟩, trivial⟩ (fun _ => rfl) (fun r1 => ?_)
    refine RS.go ?_
    exact RT.done rfl rfl (Le.refl _) ⟨⟨_, rfl, LeO.refl _⟩, trivial⟩ rfl (dom_of rfl)
/-! ### pilemake_Stream_Flip: function 22 -/
def pilemake_Stream_Flip.f (k : Nat) (p0_0 : List Int) (p0_1 : Int) (a1 : Int) : Option (Bool × (List Int) × Int) := ((pilemake_Stream_Next.f k p0_0 p0_1 a1).bind fun r1 => Option.some ((decide (r1.1 = 0)), r1.2.1, r1.2.2))
theorem pilemake_Stream_Flip.ok (k : Nat) (p0_0 : List Int) (p0_1 : Int) (a1 : Int) (r : Bool × (List Int) × Int) (h : pilemake_Stream_Flip.f k p0_0 p0_1 a1 = some r) : Ct Tryz.prog B 22 [.ref 100000 0 0 0 2, .int .i64 a1] (ofL [(100000, .box [sq eI p0_0, .int .i64 p0_1])]) (.bool r.1) (ofL [(100000, .box [sq eI r.2.1, .int .i64 r.2.2])]) := by
  refine Ct.of (Y := (fam Tryz.f22 [] [] [(100000, .box [sq eI p0_0, .int .i64 p0_1])] (fun r : Bool × (List Int) × Int => .bool r.1) (fun r => [(100000, .box [sq eI r.2.1, .int .i64 r.2.2])]))) Tryz.func22 rfl Tryz.call22 rfl rfl ?_ r h
  unfold pilemake_Stream_Flip.f
  refine RS.go ?_
  refine RT.call rfl (fun _ h => pilemake_Stream_Next.ok k p0_0 p0_1 a1 _ h) (fun i => bif Nat.beq i 100000 then 100000 else i) (LeL.eq rfl) ⟨⟨_, rfl, LeO.refl _⟩, trivial⟩ (fun _ => rfl) (fun r1 => ?_)
  refine RS.go ?_
  exact RT.done rfl rfl (Le.refl _) ⟨⟨_, rfl, LeO.refl _⟩, trivial⟩ rfl (dom_of rfl)
/-! ### pilemake_Stream_TimesOf: function 17 -/
def pilemake_Stream_TimesOf.k0 : List DK := [⟨[3, 69], [3], [], [3]⟩, ⟨[68], [], [2], []⟩, ⟨[4], [4], [69], []⟩, ⟨[5], [], [68], []⟩]
def pilemake_Stream_TimesOf.k1 : List Nat := [0, 0, 1, 7]
def pilemake_Stream_TimesOf.k2 : List DK := [⟨[33, 42], [], [43], []⟩, ⟨[33, 39, 41], [], [42], []⟩, ⟨[33, 40], [4], [41], []⟩, ⟨[33, 4], [4], [40], []⟩, ⟨[33, 38], [5], [39], []⟩, ⟨[33, 34, 37], [5], [38], []⟩, ⟨[33, 36], [], [37], []⟩, ⟨[33, 35], [5], [36], []⟩, ⟨[33, 5], [], [35], []⟩, ⟨[33, 5], [], [34], []⟩, ⟨[32], [], [33], []⟩, ⟨[31], [], [32], []⟩, ⟨[30], [5], [31], []⟩, ⟨[5], [], [30], []⟩]
def pilemake_Stream_TimesOf.k3 : List Nat := [0, 1, 3, 7, 15, 15, 47, 111, 255, 511, 15, 1039, 4095, 8191]
def pilemake_Stream_TimesOf.k4 : List DK := [⟨[33, 42], [], [43], []⟩, ⟨[33], [], [42], []⟩, ⟨[33], [], [41], []⟩, ⟨[33], [], [40], []⟩, ⟨[33], [], [39], []⟩, ⟨[33], [], [38], []⟩, ⟨[33], [], [37], []⟩, ⟨[33], [], [36], []⟩, ⟨[33], [], [35], []⟩, ⟨[33], [], [34], []⟩, ⟨[32], [], [33], []⟩, ⟨[31], [], [32], []⟩, ⟨[30], [5], [31], []⟩, ⟨[5], [], [30], []⟩]
mutual
def pilemake_Stream_TimesOf.j14 : Nat → Int → Int → List Int → List Int → Int → Option ((List Int) × Int × Int × (List Int) × Int)
  | 0, _, _, _, _, _ => Option.none
  | k + 1, o4_0, o4_1j14, o5j14, o100000_0j14, o100000_1j14 => Option.some (o5j14, o4_0, o4_1j14, o100000_0j14, o100000_1j14)
def pilemake_Stream_TimesOf.l1 : Nat → Int → Int → Int → List Int → Int → List Int → Option ((List Int) × Int × Int × (List Int) × Int)
  | 0, _, _, _, _, _, _ => Option.none
  | k + 1, x6, o4_0, o4_1, o100000_0, o100000_1, o5b => (if (o5b.length : Int) > 0 then (if 0 ≤ wrap64 ((o5b.length : Int) - 1) then (if wrap64 ((o5b.length : Int) - 1) < (o5b.length : Int) then (if (rd o5b (wrap64 ((o5b.length : Int) - 1))) ≥ o4_1 then (if 0 ≤ wrap64 ((o5b.length : Int) - 1) then (if wrap64 ((o5b.length : Int) - 1) ≤ (o5b.length : Int) then pilemake_Stream_TimesOf.l1 k x6 o4_0 o4_1 o100000_0 o100000_1 (o5b.take (wrap64 ((o5b.length : Int) - 1)).toNat) else Option.none) else Option.none) else ((pilemake_Stream_Flip.f k o100000_0 o100000_1 15).bind fun r10 => (if r10.1 = true then ((pilemake_Stream_Pick.f k r10.2.1 r10.2.2 [o4_1, o4_0, 345686400001]).bind fun r11 => ((pilemake_Stream_Pick.f k r11.2.1 r11.2.2 [0, r11.1, x6]).bind fun r12 => (if o5b.length + [r12.1].length ≤ 549755813888 then pilemake_Stream_TimesOf.j14 k o4_0 r11.1 (o5b ++ [r12.1]) r12.2.1 r12.2.2 else Option.none))) else pilemake_Stream_TimesOf.j14 k o4_0 o4_1 o5b r10.2.1 r10.2.2))) else Option.none) else Option.none) else ((pilemake_Stream_Flip.f k o100000_0 o100000_1 15).bind fun r16 => (if r16.1 = true then ((pilemake_Stream_Pick.f k r16.2.1 r16.2.2 [o4_1, o4_0, 345686400001]).bind fun r17 => ((pilemake_Stream_Pick.f k r17.2.1 r17.2.2 [0, r17.1, x6]).bind fun r18 => (if o5b.length + [r18.1].length ≤ 549755813888 then pilemake_Stream_TimesOf.j14 k o4_0 r17.1 (o5b ++ [r18.1]) r18.2.1 r18.2.2 else Option.none))) else pilemake_Stream_TimesOf.j14 k o4_0 o4_1 o5b r16.2.1 r16.2.2)))
def pilemake_Stream_TimesOf.l0 : Nat → Int → Int → Int → Int → Int → List Int → List Int → Int → Option ((List Int) × Int × Int × (List Int) × Int)
  | 0, _, _, _, _, _, _, _, _ => Option.none
  | k + 1, x6, x17, x18, o4_0, o4_1, o5, o100000_0, o100000_1 => (if x18 < x17 then ((pilemake_Stream_Pick.f k o100000_0 o100000_1 [0, 1, 1000, 60000, 300000, 1800000]).bind fun r4 => (if o5.length + 1 ≤ 549755813888 then pilemake_Stream_TimesOf.l0 k (wrap64 (x6 + r4.1)) x17 (wrap64 (x18 + 1)) o4_0 o4_1 (o5 ++ [wrap64 (x6 + r4.1)]) r4.2.1 r4.2.2 else Option.none)) else pilemake_Stream_TimesOf.l1 k x6 o4_0 o4_1 o100000_0 o100000_1 o5)
end
def pilemake_Stream_TimesOf.f (k : Nat) (p0_0 : List Int) (p0_1 : Int) : Option ((List Int) × Int × Int × (List Int) × Int) := ((pilemake_Stream_Pick.f k p0_0 p0_1 [0, 1000]).bind fun r1 => ((pilemake_Stream_Pick.f k r1.2.1 r1.2.2 [3600000, 5000000, 9000000, 30000000]).bind fun r2 => ((pilemake_Stream_Range.f k r2.2.1 r2.2.2 0 12).bind fun r3 => pilemake_Stream_TimesOf.l0 k r1.1 r3.1 0 r1.1 r2.1 [] r3.2.1 r3.2.2)))
theorem pilemake_Stream_TimesOf.loops (p0_0 : List Int) (p0_1 : Int) : ∀ k, (∀ (o4_0 : Int) (o4_1j14 : Int) (o5j14 : List Int) (o100000_0j14 : List Int) (o100000_1j14 : Int) (t5j14 : List Int), RS (fam Tryz.f17 [14, 1000048] [] [(100000, .box [sq eI p0_0, .int .i64 p0_1])] (fun r : (List Int) × Int × Int × (List Int) × Int => .tup [sq eI r.1, .agg [.int .i64 r.2.1, .int .i64 r.2.2.1]]) (fun r => [(100000, .box [sq eI r.2.2.2.1, .int .i64 r.2.2.2.2])])) (Func.reg Tryz.f17 14) ⟨ofT [(3, .ref 3 0 0 0 2), (4, .ref 4 0 0 0 2), (5, .osl 5 eI.w 0 o5j14.length (o5j14 ++ t5j14).length)], ofL [(3, .box [.int .i64 0, .int .i64 0]), (4, .box [.int .i64 o4_0, .int .i64 o4_1j14]), (5, bufE eI (o5j14 ++ t5j14)), (100000, .box [sq eI o100000_0j14, .int .i64 o100000_1j14])]⟩ (pilemake_Stream_TimesOf.j14 k o4_0 o4_1j14 o5j14 o100000_0j14 o100000_1j14)) ∧ (∀ (x6 : Int) (o4_0 : Int) (o4_1 : Int) (o100000_0 : List Int) (o100000_1 : Int) (o5b : List Int) (t5b : List Int), RS (fam Tryz.f17 [14, 1000048] [] [(100000, .box [sq eI p0_0, .int .i64 p0_1])] (fun r : (List Int) × Int × Int × (List Int) × Int => .tup [sq eI r.1, .agg [.int .i64 r.2.1, .int .i64 r.2.2.1]]) (fun r => [(100000, .box [sq eI r.2.2.2.1, .int .i64 r.2.2.2.2])])) (Func.head Tryz.f17 1) ⟨ofT [(0, .ref 100000 0 0 0 2), (3, .ref 3 0 0 0 2), (4, .ref 4 0 0 0 2), (5, .osl 5 eI.w 0 o5b.length (o5b ++ t5b).length), (6, .int .i64 x6)], ofL [(3, .box [.int .i64 0, .int .i64 0]), (4, .box [.int .i64 o4_0, .int .i64 o4_1]), (5, bufE eI (o5b ++ t5b)), (100000, .box [sq eI o100000_0, .int .i64 o100000_1])]⟩ (pilemake_Stream_TimesOf.l1 k x6 o4_0 o4_1 o100000_0 o100000_1 o5b)) ∧ (∀ (x6 : Int) (x17 : Int) (x18 : Int) (o4_0 : Int) (o4_1 : Int) (o5 : List Int) (o100000_0 : List Int) (o100000_1 : Int), RS (fam Tryz.f17 [14, 1000048] [] [(100000, .box [sq eI p0_0, .int .i64 p0_1])] (fun r : (List Int) × Int × Int × (List Int) × Int => .tup [sq eI r.1, .agg [.int .i64 r.2.1, .int .i64 r.2.2.1]]) (fun r => [(100000, .box [sq eI r.2.2.2.1, .int .i64 r.2.2.2.2])])) (Func.head Tryz.f17 0) ⟨ofT [(0, .ref 100000 0 0 0 2), (3, .ref 3 0 0 0 2), (4, .ref 4 0 0 0 2), (5, .osl 5 eI.w 0 o5.length o5.length), (6, .int .i64 x6), (17, .int .i64 x17), (18, .int .i64 x18)], ofL [(3, .box [.int .i64 0, .int .i64 0]), (4, .box [.int .i64 o4_0, .int .i64 o4_1]), (5, bufE eI o5), (100000, .box [sq eI o100000_0, .int .i64 o100000_1])]⟩ (pilemake_Stream_TimesOf.l0 k x6 x17 x18 o4_0 o4_1 o5 o100000_0 o100000_1))
  | 0 => ⟨by intro _ _ _ _ _ _; simp only [pilemake_Stream_TimesOf.j14]; exact RS.none, by intro _ _ _ _ _ _ _; simp only [pilemake_Stream_TimesOf.l1]; exact RS.none, by intro _ _ _ _ _ _ _ _; simp only [pilemake_Stream_TimesOf.l0]; exact RS.none⟩
  | k + 1 => by
    have ih := pilemake_Stream_TimesOf.loops p0_0 p0_1 k
    refine ⟨?_, ?_, ?_⟩
    · intro o4_0 o4_1j14 o5j14 o100000_0j14 o100000_1j14 t5j14
      simp only [pilemake_Stream_TimesOf.j14]
      refine RS.draw rfl ?_
      refine RD.fin pilemake_Stream_TimesOf.k0 pilemake_Stream_TimesOf.k1 rfl rfl (by decide +kernel) ?_
      refine RS.go ?_
      refine RT.freeze 5 _ _ _ [(2, .sl o5j14.length eI.w (rep eI (o5j14 ++ t5j14))), (3, .ref 3 0 0 0 2)] [(100000, .box [sq eI o100000_0j14, .int .i64 o100000_1j14]), (3, .box [.int .i64 o4_0, .int .i64 o4_1j14])] rfl rfl ⟨.inr ⟨_, rfl, by first | exact Nat.le_refl _ | simp, rfl⟩, .inl (Le.refl _), trivial⟩ ⟨⟨_, rfl, LeO.refl _⟩, ⟨⟨_, rfl, LeO.refl _⟩, trivial⟩⟩ rfl (dom_of rfl) ?_
      exact RT.done rfl rfl (Le.tup (LeL.cons Le.pre (LeL.cons (Le.refl _) (LeL.nil)))) ⟨⟨_, rfl, LeO.refl _⟩, trivial⟩ rfl (dom_of rfl)
    · intro x6 o4_0 o4_1 o100000_0 o100000_1 o5b t5b
      simp only [pilemake_Stream_TimesOf.l1]
      refine RS.go ?_
      refine RT.goto rfl ?_
      refine RS.draw rfl ?_
      refine RD.req rfl (by first | exact Nat.zero_add _ | rfl | simp [szf, szOf]) ?_
      refine RD.br rfl (fun c21 => ?_) (fun c21 => ?_)
      · refine RD.brT rfl ?_
        refine RD.brT rfl ?_
        refine RD.req rfl (by first | exact Nat.zero_add _ | rfl | simp [szf, szOf]) ?_
        refine RD.brT rfl ?_
        refine RD.brT rfl ?_
        refine RD.req rfl (by first | exact Nat.zero_add _ | rfl | simp) ?_
        refine RD.br rfl (fun c6 => ?_) (fun c6 => RD.none)
        refine RD.br rfl (fun c7 => ?_) (fun c7 => RD.none)
        refine RD.brT rfl ?_
        refine RD.req rfl ⟨by first | rfl | simp, elt_lt c6 (le_room2 c7)⟩ ?_
        refine RD.brT rfl ?_
        refine RD.brT rfl ?_
        refine RD.brT rfl ?_
        refine RD.brT rfl ?_
        refine RD.fin pilemake_Stream_TimesOf.k2 pilemake_Stream_TimesOf.k3 rfl rfl (by decide +kernel) ?_
        refine RS.go ?_
        refine RT.brC (p := (rd o5b (wrap64 ((o5b.length : Int) - 1))) ≥ o4_1) rfl (pre_cond (E := eI) (l := o5b) (t := t5b) (i := wrap64 ((o5b.length : Int) - 1)) (q := fun x => x ≥ o4_1) c6 c7) (fun c15 => ?_) (fun c15 => ?_)
        · refine RT.req rfl (by first | exact Nat.zero_add _ | rfl | simp [szf, szOf]) ?_
          refine RT.req rfl (by first | exact Nat.zero_add _ | rfl | simp) ?_
          refine RT.br rfl (fun c8 => ?_) (fun c8 => RT.none)
          refine RT.when (fun c9 => ?_)
          refine RT.sure rfl (decide_eq_true (by first | exact c9 | exact le_room c9)) ?_
          refine RT.goto rfl ?_
          refine RS.obj 5 (bufE eI ((o5b.take (wrap64 ((o5b.length : Int) - 1)).toNat) ++ ((o5b.drop (wrap64 ((o5b.length : Int) - 1)).toNat) ++ t5b))) ⟨_, rfl, LeO.cut⟩ ?_
          refine RS.slot 48 (.osl 5 eI.w 0 (o5b.take (wrap64 ((o5b.length : Int) - 1)).toNat).length ((o5b.take (wrap64 ((o5b.length : Int) - 1)).toNat) ++ ((o5b.drop (wrap64 ((o5b.length : Int) - 1)).toNat) ++ t5b)).length) (Le.osl2 rfl rfl (len_take c8 c9) len_cut) ?_
          refine RS.go ?_
          refine RT.goto rfl ?_
          refine RS.weak [(0, .ref 100000 0 0 0 2), (3, .ref 3 0 0 0 2), (4, .ref 4 0 0 0 2), (5, .osl 5 eI.w 0 (o5b.take (wrap64 ((o5b.length : Int) - 1)).toNat).length ((o5b.take (wrap64 ((o5b.length : Int) - 1)).toNat) ++ ((o5b.drop (wrap64 ((o5b.length : Int) - 1)).toNat) ++ t5b)).length), (6, .int .i64 x6)] [(3, .box [.int .i64 0, .int .i64 0]), (4, .box [.int .i64 o4_0, .int .i64 o4_1]), (5, bufE eI ((o5b.take (wrap64 ((o5b.length : Int) - 1)).toNat) ++ ((o5b.drop (wrap64 ((o5b.length : Int) - 1)).toNat) ++ t5b))), (100000, .box [sq eI o100000_0, .int .i64 o100000_1])] ⟨Le.eq (by first | rfl | simp), Le.eq (by first | rfl | simp), Le.eq (by first | rfl | simp), Le.osl2 rfl rfl (by first | rfl | simp) (by first | rfl | simp), Le.eq (by first | rfl | simp), trivial⟩ ⟨⟨_, rfl, LeO.refl _⟩, ⟨_, rfl, LeO.refl _⟩, ⟨_, rfl, by first | exact LeO.refl _ | exact LeO.room0⟩, ⟨_, rfl, LeO.refl _⟩, trivial⟩ rfl (dom_of rfl) ?_
          exact ih.2.1 x6 o4_0 o4_1 o100000_0 o100000_1 (o5b.take (wrap64 ((o5b.length : Int) - 1)).toNat) ((o5b.drop (wrap64 ((o5b.length : Int) - 1)).toNat) ++ t5b)
        · refine RT.call rfl (fun _ h => pilemake_Stream_Flip.ok k o100000_0 o100000_1 15 _ h) (fun i => bif Nat.beq i 100000 then 100000 else i) (LeL.eq rfl) ⟨⟨_, rfl, LeO.refl _⟩, trivial⟩ (fun _ => rfl) (fun r10 => ?_)
          refine RS.go ?_
          refine RT.brB rfl (fun c14 => ?_) (fun c14 => ?_)
          · refine RT.goto rfl ?_
            refine RS.slot 56 (sq eI [o4_1, o4_0, 345686400001]) (Le.lit (E := eI) (l := [o4_1, o4_0, 345686400001]) (cells_of rfl)) ?_
            refine RS.go ?_
            refine RT.call rfl (fun _ h => pilemake_Stream_Pick.ok k r10.2.1 r10.2.2 [o4_1, o4_0, 345686400001] _ h) (fun i => bif Nat.beq i 100000 then 100000 else i) (LeL.eq rfl) ⟨⟨_, rfl, LeO.refl _⟩, trivial⟩ (fun _ => rfl) (fun r11 => ?_)
            refine RS.go ?_
            refine RT.goto rfl ?_
            refine RS.slot 64 (sq eI [0, r11.1, x6]) (Le.lit (E := eI) (l := [0, r11.1, x6]) (cells_of rfl)) ?_
            refine RS.go ?_
            refine RT.call rfl (fun _ h => pilemake_Stream_Pick.ok k r11.2.1 r11.2.2 [0, r11.1, x6] _ h) (fun i => bif Nat.beq i 100000 then 100000 else i) (LeL.eq rfl) ⟨⟨_, rfl, LeO.refl _⟩, trivial⟩ (fun _ => rfl) (fun r12 => ?_)
            refine RS.go ?_
            refine RT.goto rfl ?_
            refine RS.slot 66 (sq eI [r12.1]) (Le.lit (E := eI) (l := [r12.1]) (cells_of rfl)) ?_
            refine RS.go ?_
            refine RT.req rfl ⟨by first | rfl | simp, by first | rfl | simp⟩ ?_
            refine RT.app (E := eI) (l := o5b) (t := t5b) (m := [r12.1]) rfl (fun _ _ _ _ => rfl) (fun t13 => ?_)
            refine RS.go ?_
            refine RT.goto rfl ?_
            refine RS.weak [(3, .ref 3 0 0 0 2), (4, .ref 4 0 0 0 2), (5, .osl 5 eI.w 0 (o5b ++ [r12.1]).length ((o5b ++ [r12.1]) ++ t13).length)] [(3, .box [.int .i64 0, .int .i64 0]), (4, .box [.int .i64 o4_0, .int .i64 r11.1]), (5, bufE eI ((o5b ++ [r12.1]) ++ t13)), (100000, .box [sq eI r12.2.1, .int .i64 r12.2.2])] ⟨Le.eq (by first | rfl | simp), Le.eq (by first | rfl | simp), Le.osl2 rfl rfl (by first | rfl | simp) (by first | rfl | simp), trivial⟩ ⟨⟨_, rfl, LeO.refl _⟩, ⟨_, rfl, LeO.refl _⟩, ⟨_, rfl, by first | exact LeO.refl _ | exact LeO.room0⟩, ⟨_, rfl, LeO.refl _⟩, trivial⟩ rfl (dom_of rfl) ?_
            exact ih.1 o4_0 r11.1 (o5b ++ [r12.1]) r12.2.1 r12.2.2 t13
          · refine RT.goto rfl ?_
            refine RS.weak [(3, .ref 3 0 0 0 2), (4, .ref 4 0 0 0 2), (5, .osl 5 eI.w 0 o5b.length (o5b ++ t5b).length)] [(3, .box [.int .i64 0, .int .i64 0]), (4, .box [.int .i64 o4_0, .int .i64 o4_1]), (5, bufE eI (o5b ++ t5b)), (100000, .box [sq eI r10.2.1, .int .i64 r10.2.2])] ⟨Le.eq (by first | rfl | simp), Le.eq (by first | rfl | simp), Le.osl2 rfl rfl (by first | rfl | simp) (by first | rfl | simp), trivial⟩ ⟨⟨_, rfl, LeO.refl _⟩, ⟨_, rfl, LeO.refl _⟩, ⟨_, rfl, by first | exact LeO.refl _ | exact LeO.room0⟩, ⟨_, rfl, LeO.refl _⟩, trivial⟩ rfl (dom_of rfl) ?_
            exact ih.1 o4_0 o4_1 o5b r10.2.1 r10.2.2 t5b
      · refine RD.brF rfl ?_
        refine RD.brF rfl ?_
        refine RD.brF rfl ?_
        refine RD.brF rfl ?_
        refine RD.brF rfl ?_
        refine RD.brF rfl ?_
        refine RD.brF rfl ?_
        refine RD.brF rfl ?_
        refine RD.brF rfl ?_
        refine RD.fin pilemake_Stream_TimesOf.k4 pilemake_Stream_TimesOf.k3 rfl rfl (by decide +kernel) ?_
        refine RS.go ?_
        refine RT.brF rfl ?_
        refine RT.call rfl (fun _ h => pilemake_Stream_Flip.ok k o100000_0 o100000_1 15 _ h) (fun i => bif Nat.beq i 100000 then 100000 else i) (LeL.eq rfl) ⟨⟨_, rfl, LeO.refl _⟩, trivial⟩ (fun _ => rfl) (fun r16 => ?_)
        refine RS.go ?_
        refine RT.brB rfl (fun c20 => ?_) (fun c20 => ?_)
        · refine RT.goto rfl ?_
          refine RS.slot 56 (sq eI [o4_1, o4_0, 345686400001]) (Le.lit (E := eI) (l := [o4_1, o4_0, 345686400001]) (cells_of rfl)) ?_
          refine RS.go ?_
          refine RT.call rfl (fun _ h => pilemake_Stream_Pick.ok k r16.2.1 r16.2.2 [o4_1, o4_0, 345686400001] _ h) (fun i => bif Nat.beq i 100000 then 100000 else i) (LeL.eq rfl) ⟨⟨_, rfl, LeO.refl _⟩, trivial⟩ (fun _ => rfl) (fun r17 => ?_)
          refine RS.go ?_
          refine RT.goto rfl ?_
          refine RS.slot 64 (sq eI [0, r17.1, x6]) (Le.lit (E := eI) (l := [0, r17.1, x6]) (cells_of rfl)) ?_
          refine RS.go ?_
          refine RT.call rfl (fun _ h => pilemake_Stream_Pick.ok k r17.2.1 r17.2.2 [0, r17.1, x6] _ h) (fun i => bif Nat.beq i 100000 then 100000 else i) (LeL.eq rfl) ⟨⟨_, rfl, LeO.refl _⟩, trivial⟩ (fun _ => rfl) (fun r18 => ?_)
          refine RS.go ?_
          refine RT.goto rfl ?_
          refine RS.slot 66 (sq eI [r18.1]) (Le.lit (E := eI) (l := [r18.1]) (cells_of rfl)) ?_
          refine RS.go ?_
          refine RT.req rfl ⟨by first | rfl | simp, by first | rfl | simp⟩ ?_
          refine RT.app (E := eI) (l := o5b) (t := t5b) (m := [r18.1]) rfl (fun _ _ _ _ => rfl) (fun t19 => ?_)
          refine RS.go ?_
          refine RT.goto rfl ?_
          refine RS.weak [(3, .ref 3 0 0 0 2), (4, .ref 4 0 0 0 2), (5, .osl 5 eI.w 0 (o5b ++ [r18.1]).length ((o5b ++ [r18.1]) ++ t19).length)] [(3, .box [.int .i64 0, .int .i64 0]), (4, .box [.int .i64 o4_0, .int .i64 r17.1]), (5, bufE eI ((o5b ++ [r18.1]) ++ t19)), (100000, .box [sq eI r18.2.1, .int .i64 r18.2.2])] ⟨Le.eq (by first | rfl | simp), Le.eq (by first | rfl | simp), Le.osl2 rfl rfl (by first | rfl | simp) (by first | rfl | simp), trivial⟩ ⟨⟨_, rfl, LeO.refl _⟩, ⟨_, rfl, LeO.refl _⟩, ⟨_, rfl, by first | exact LeO.refl _ | exact LeO.room0⟩, ⟨_, rfl, LeO.refl _⟩, trivial⟩ rfl (dom_of rfl) ?_
          exact ih.1 o4_0 r17.1 (o5b ++ [r18.1]) r18.2.1 r18.2.2 t19
        · refine RT.goto rfl ?_
          refine RS.weak [(3, .ref 3 0 0 0 2), (4, .ref 4 0 0 0 2), (5, .osl 5 eI.w 0 o5b.length (o5b ++ t5b).length)] [(3, .box [.int .i64 0, .int .i64 0]), (4, .box [.int .i64 o4_0, .int .i64 o4_1]), (5, bufE eI (o5b ++ t5b)), (100000, .box [sq eI r16.2.1, .int .i64 r16.2.2])] ⟨Le.eq (by first | rfl | simp), Le.eq (by first | rfl | simp), Le.osl2 rfl rfl (by first | rfl | simp) (by first | rfl | simp), trivial⟩ ⟨⟨_, rfl, LeO.refl _⟩, ⟨_, rfl, LeO.refl _⟩, ⟨_, rfl, by first | exact LeO.refl _ | exact LeO.room0⟩, ⟨_, rfl, LeO.refl _⟩, trivial⟩ rfl (dom_of rfl) ?_
          exact ih.1 o4_0 o4_1 o5b r16.2.1 r16.2.2 t5b
    · intro x6 x17 x18 o4_0 o4_1 o5 o100000_0 o100000_1
      simp only [pilemake_Stream_TimesOf.l0]
      refine RS.go ?_
      refine RT.br rfl (fun c22 => ?_) (fun c22 => ?_)
      · refine RT.goto rfl ?_
        refine RS.slot 22 (sq eI [0, 1, 1000, 60000, 300000, 1800000]) (Le.lit (E := eI) (l := [0, 1, 1000, 60000, 300000, 1800000]) (cells_of rfl)) ?_
        refine RS.go ?_
        refine RT.call rfl (fun _ h => pilemake_Stream_Pick.ok k o100000_0 o100000_1 [0, 1, 1000, 60000, 300000, 1800000] _ h) (fun i => bif Nat.beq i 100000 then 100000 else i) (LeL.eq rfl) ⟨⟨_, rfl, LeO.refl _⟩, trivial⟩ (fun _ => rfl) (fun r4 => ?_)
        refine RS.go ?_
        refine RT.goto rfl ?_
        refine RS.slot 27 (sq eI [wrap64 (x6 + r4.1)]) (Le.lit (E := eI) (l := [wrap64 (x6 + r4.1)]) (cells_of rfl)) ?_
        refine RS.go ?_
        refine RT.req rfl ⟨by first | rfl | simp, by first | exact Nat.le_refl _ | simp⟩ ?_
        refine RT.not rfl (by simp <;> omega) ?_
        refine RT.br rfl (fun c5 => ?_) (fun _ => RT.none)
        refine RT.goto rfl ?_
        refine RS.obj 5 (bufE eI (o5 ++ [wrap64 (x6 + r4.1)])) ⟨_, rfl, LeO.app (l := o5) (m := [wrap64 (x6 + r4.1)]) fun _ _ _ _ => rfl⟩ ?_
        refine RS.slot 28 (.osl 5 eI.w 0 (o5 ++ [wrap64 (x6 + r4.1)]).length (o5 ++ [wrap64 (x6 + r4.1)]).length) (by first | exact Le.oslN rfl (by simp) | exact Le.trans (y := .osl 5 eI.w 0 (o5.length + 1) (o5.length + 1)) (Le.refl _) (Le.oslN rfl (by simp))) ?_
        refine RS.go ?_
        refine RT.goto rfl ?_
        refine RS.weak [(0, .ref 100000 0 0 0 2), (3, .ref 3 0 0 0 2), (4, .ref 4 0 0 0 2), (5, .osl 5 eI.w 0 (o5 ++ [wrap64 (x6 + r4.1)]).length (o5 ++ [wrap64 (x6 + r4.1)]).length), (6, .int .i64 (wrap64 (x6 + r4.1))), (17, .int .i64 x17), (18, .int .i64 (wrap64 (x18 + 1)))] [(3, .box [.int .i64 0, .int .i64 0]), (4, .box [.int .i64 o4_0, .int .i64 o4_1]), (5, bufE eI (o5 ++ [wrap64 (x6 + r4.1)])), (100000, .box [sq eI r4.2.1, .int .i64 r4.2.2])] ⟨Le.eq (by first | rfl | simp), Le.eq (by first | rfl | simp), Le.eq (by first | rfl | simp), (by first | exact Le.oslN rfl (by first | rfl | simp) | exact Le.refl _ | exact Le.eq (by first | rfl | simp)), Le.eq (by first | rfl | simp), Le.eq (by first | rfl | simp), Le.eq (by first | rfl | simp), trivial⟩ ⟨⟨_, rfl, LeO.refl _⟩, ⟨_, rfl, LeO.refl _⟩, ⟨_, rfl, LeO.refl _⟩, ⟨_, rfl, LeO.refl _⟩, trivial⟩ rfl (dom_of rfl) ?_
        exact ih.2.2 (wrap64 (x6 + r4.1)) x17 (wrap64 (x18 + 1)) o4_0 o4_1 (o5 ++ [wrap64 (x6 + r4.1)]) r4.2.1 r4.2.2 
      · refine RT.goto rfl ?_
        refine RS.weak [(0, .ref 100000 0 0 0 2), (3, .ref 3 0 0 0 2), (4, .ref 4 0 0 0 2), (5, .osl 5 eI.w 0 o5.length (o5 ++ ([] : List Int)).length), (6, .int .i64 x6)] [(3, .box [.int .i64 0, .int .i64 0]), (4, .box [.int .i64 o4_0, .int .i64 o4_1]), (5, bufE eI (o5 ++ ([] : List Int))), (100000, .box [sq eI o100000_0, .int .i64 o100000_1])] ⟨Le.eq (by first | rfl | simp), Le.eq (by first | rfl | simp), Le.eq (by first | rfl | simp), Le.osl2 rfl rfl (by first | rfl | simp) (by first | rfl | simp), Le.eq (by first | rfl | simp), trivial⟩ ⟨⟨_, rfl, LeO.refl _⟩, ⟨_, rfl, LeO.refl _⟩, ⟨_, rfl, by first | exact LeO.refl _ | exact LeO.room0⟩, ⟨_, rfl, LeO.refl _⟩, trivial⟩ rfl (dom_of rfl) ?_
        exact ih.2.1 x6 o4_0 o4_1 o100000_0 o100000_1 o5 ([] : List Int)
theorem pilemake_Stream_TimesOf.ok (k : Nat) (p0_0 : List Int) (p0_1 : Int) (r : (List Int) × Int × Int × (List Int) × Int) (h : pilemake_Stream_TimesOf.f k p0_0 p0_1 = some r) : Ct Tryz.prog B 17 [.ref 100000 0 0 0 2] (ofL [(100000, .box [sq eI p0_0, .int .i64 p0_1])]) (.tup [sq eI r.1, .agg [.int .i64 r.2.1, .int .i64 r.2.2.1]]) (ofL [(100000, .box [sq eI r.2.2.2.1, .int .i64 r.2.2.2.2])]) := by
  refine Ct.of (Y := (fam Tryz.f17 [14, 1000048] [] [(100000, .box [sq eI p0_0, .int .i64 p0_1])] (fun r : (List Int) × Int × Int × (List Int) × Int => .tup [sq eI r.1, .agg [.int .i64 r.2.1, .int .i64 r.2.2.1]]) (fun r => [(100000, .box [sq eI r.2.2.2.1, .int .i64 r.2.2.2.2])]))) Tryz.func17 rfl Tryz.call17 rfl rfl ?_ r h
  unfold pilemake_Stream_TimesOf.f
  refine RS.go ?_
  refine RT.goto rfl ?_
  refine RS.slot 8 (sq eI [0, 1000]) (Le.lit (E := eI) (l := [0, 1000]) (cells_of rfl)) ?_
  refine RS.go ?_
  refine RT.call rfl (fun _ h => pilemake_Stream_Pick.ok k p0_0 p0_1 [0, 1000] _ h) (fun i => bif Nat.beq i 100000 then 100000 else i) (LeL.eq rfl) ⟨⟨_, rfl, LeO.refl _⟩, trivial⟩ (fun _ => rfl) (fun r1 => ?_)
  refine RS.go ?_
  refine RT.goto rfl ?_
  refine RS.slot 11 (sq eI [3600000, 5000000, 9000000, 30000000]) (Le.lit (E := eI) (l := [3600000, 5000000, 9000000, 30000000]) (cells_of rfl)) ?_
  refine RS.go ?_
  refine RT.call rfl (fun _ h => pilemake_Stream_Pick.ok k r1.2.1 r1.2.2 [3600000, 5000000, 9000000, 30000000] _ h) (fun i => bif Nat.beq i 100000 then 100000 else i) (LeL.eq rfl) ⟨⟨_, rfl, LeO.refl _⟩, trivial⟩ (fun _ => rfl) (fun r2 => ?_)
  refine RS.go ?_
  refine RT.call rfl (fun _ h => pilemake_Stream_Range.ok k r2.2.1 r2.2.2 0 12 _ h) (fun i => bif Nat.beq i 100000 then 100000 else i) (LeL.eq rfl) ⟨⟨_, rfl, LeO.refl _⟩, trivial⟩ (fun _ => rfl) (fun r3 => ?_)
  refine RS.go ?_
  refine RT.goto rfl ?_
  refine RS.ghost 5 5 eI.w (rep eI []) rfl rfl ?_
  refine RS.weak [(0, .ref 100000 0 0 0 2), (3, .ref 3 0 0 0 2), (4, .ref 4 0 0 0 2), (5, .osl 5 eI.w 0 ([] : List Int).length ([] : List Int).length), (6, .int .i64 r1.1), (17, .int .i64 r3.1), (18, .int .i64 0)] [(3, .box [.int .i64 0, .int .i64 0]), (4, .box [.int .i64 r1.1, .int .i64 r2.1]), (5, bufE eI ([] : List Int)), (100000, .box [sq eI r3.2.1, .int .i64 r3.2.2])] ⟨Le.eq (by first | rfl | simp), Le.eq (by first | rfl | simp), Le.eq (by first | rfl | simp), (by first | exact Le.oslN rfl (by first | rfl | simp) | exact Le.refl _ | exact Le.eq (by first | rfl | simp)), Le.eq (by first | rfl | simp), Le.eq (by first | rfl | simp), Le.eq (by first | rfl | simp), trivial⟩ ⟨⟨_, rfl, LeO.refl _⟩, ⟨_, rfl, LeO.refl _⟩, ⟨_, rfl, LeO.refl _⟩, ⟨_, rfl, LeO.refl _⟩, trivial⟩ rfl (dom_of rfl) ?_
  exact (pilemake_Stream_TimesOf.loops p0_0 p0_1 k).2.2 r1.1 r3.1 0 r1.1 r2.1 [] r3.2.1 r3.2.2 
/-! ### pileref1_timeFault: function 46 -/
def pileref1_timeFault.f (a0_0 : Int) (a0_1 : Int) : Option (Int) := (if a0_0 < 0 then Option.some 1 else (if a0_0 ≥ a0_1 then Option.some 1 else (if a0_1 > 345686400000 then Option.some 1 else Option.some 0)))
theorem pileref1_timeFault.ok (a0_0 : Int) (a0_1 : Int) (r : Int) (h : pileref1_timeFault.f a0_0 a0_1 = some r) : Ct Tryz.prog B 46 [.agg [.int .i64 a0_0, .int .i64 a0_1]] (ofL []) (.int .i64 r) (ofL []) := by
  refine Ct.of (Y := (fam Tryz.f46 [] [] [] (fun r : Int => .int .i64 r) (fun r => []))) Tryz.func46 rfl Tryz.call46 rfl rfl ?_ r h
  unfold pileref1_timeFault.f
  refine RS.go ?_
  refine RT.br rfl (fun c3 => ?_) (fun c3 => ?_)
  · refine RT.brT rfl ?_
    refine RT.brT rfl ?_
    refine RT.brT rfl ?_
    refine RT.brT rfl ?_
    refine RT.brT rfl ?_
    refine RT.brT rfl ?_
    refine RT.brT rfl ?_
    refine RT.brT rfl ?_
    refine RT.brT rfl ?_
    refine RT.brT rfl ?_
    exact RT.done rfl rfl (Le.refl _) trivial rfl (dom0 rfl)
  · refine RT.brF rfl ?_
    refine RT.brF rfl ?_
    refine RT.brF rfl ?_
    refine RT.brF rfl ?_
    refine RT.brF rfl ?_
    refine RT.br rfl (fun c2 => ?_) (fun c2 => ?_)
    · refine RT.brT rfl ?_
      refine RT.brT rfl ?_
      refine RT.brT rfl ?_
      refine RT.brT rfl ?_
      exact RT.done rfl rfl (Le.refl _) trivial rfl (dom0 rfl)
    · refine RT.brF rfl ?_
      refine RT.brF rfl ?_
      refine RT.brF rfl ?_
      refine RT.br rfl (fun c1 => ?_) (fun c1 => ?_)
      · exact RT.done rfl rfl (Le.refl _) trivial rfl (dom0 rfl)
      · exact RT.done rfl rfl (Le.refl _) trivial rfl (dom0 rfl)
/-! ### pileref1_inside: function 47 -/
def pileref1_inside.f (a0_0 : Int) (a0_1 : Int) (a1 : Int) : Option (Bool) := (if a0_0 ≤ a1 then Option.some (decide (a1 < a0_1)) else Option.some false)
theorem pileref1_inside.ok (a0_0 : Int) (a0_1 : Int) (a1 : Int) (r : Bool) (h : pileref1_inside.f a0_0 a0_1 a1 = some r) : Ct Tryz.prog B 47 [.agg [.int .i64 a0_0, .int .i64 a0_1], .int .i64 a1] (ofL []) (.bool r) (ofL []) := by
  refine Ct.of (Y := (fam Tryz.f47 [] [] [] (fun r : Bool => .bool r) (fun r => []))) Tryz.func47 rfl Tryz.call47 rfl rfl ?_ r h
  unfold pileref1_inside.f
  refine RS.go ?_
  refine RT.br rfl (fun c1 => ?_) (fun c1 => ?_)
  · refine RT.brT rfl ?_
    refine RT.brT rfl ?_
    refine RT.brT rfl ?_
    refine RT.brT rfl ?_
    exact RT.done rfl rfl (Le.refl _) trivial rfl (dom0 rfl)
  · refine RT.brF rfl ?_
    refine RT.brF rfl ?_
    refine RT.brF rfl ?_
    refine RT.brF rfl ?_
    exact RT.done rfl rfl (Le.refl _) trivial rfl (dom0 rfl)
/-! ### pileref1_TimesFault: function 18 -/
def pileref1_TimesFault.l0 : Nat → List Int → Int → Int → Int → Option (Int)
  | 0, _, _, _, _ => Option.none
  | k + 1, l0, a1_0, a1_1, x18 => (if x18 < (l0.length : Int) then (if 0 ≤ x18 then (if x18 < (l0.length : Int) then ((pileref1_inside.f a1_0 a1_1 (rd l0 x18)).bind fun r4 => (if r4 = true then (if x18 > 0 then (if 0 ≤ wrap64 (x18 - 1) then (if wrap64 (x18 - 1) < (l0.length : Int) then (if (rd l0 x18) < (rd l0 (wrap64 (x18 - 1))) then Option.some 7 else pileref1_TimesFault.l0 k l0 a1_0 a1_1 (wrap64 (x18 + 1))) else Option.none) else Option.none) else pileref1_TimesFault.l0 k l0 a1_0 a1_1 (wrap64 (x18 + 1))) else Option.some 1)) else Option.none) else Option.none) else Option.some 0)
def pileref1_TimesFault.f (k : Nat) (l0 : List Int) (a1_0 : Int) (a1_1 : Int) : Option (Int) := ((pileref1_timeFault.f a1_0 a1_1).bind fun r1 => (if r1 = 0 then (if (l0.length : Int) > 2000 then Option.some 2 else pileref1_TimesFault.l0 k l0 a1_0 a1_1 0) else Option.some r1))
theorem pileref1_TimesFault.loops : ∀ k, (∀ (l0 : List Int) (a1_0 : Int) (a1_1 : Int) (x18 : Int), RS (fam Tryz.f18 [] [] [] (fun r : Int => .int .i64 r) (fun r => [])) (Func.head Tryz.f18 0) ⟨ofT [(0, sq eI l0), (3, .ref 3 0 0 0 2), (16, sq eI l0), (17, .int .i64 (l0.length : Int)), (18, .int .i64 x18)], ofL [(3, .box [.int .i64 a1_0, .int .i64 a1_1])]⟩ (pileref1_TimesFault.l0 k l0 a1_0 a1_1 x18))
  | 0 => by intro _ _ _ _; simp only [pileref1_TimesFault.l0]; exact RS.none
  | k + 1 => by
    have ih := pileref1_TimesFault.loops k
    · intro l0 a1_0 a1_1 x18
      simp only [pileref1_TimesFault.l0]
      refine RS.go ?_
      refine RT.br rfl (fun c10 => ?_) (fun c10 => ?_)
      · refine RT.br rfl (fun c2 => ?_) (fun c2 => RT.none)
        refine RT.br rfl (fun c3 => ?_) (fun c3 => RT.none)
        refine RT.call0 rfl (fun _ h => pileref1_inside.ok a1_0 a1_1 (rd l0 x18) _ h) (LeL.eq rfl) (fun _ => rfl) (fun r4 => ?_)
        refine RS.go ?_
        refine RT.brBN rfl (fun c9 => ?_) (fun c9 => ?_)
        · refine RT.br rfl (fun c8 => ?_) (fun c8 => ?_)
          · refine RT.brT rfl ?_
            refine RT.brT rfl ?_
            refine RT.brT rfl ?_
            refine RT.brT rfl ?_
            refine RT.br rfl (fun c5 => ?_) (fun c5 => RT.none)
            refine RT.br rfl (fun c6 => ?_) (fun c6 => RT.none)
            refine RT.brT rfl ?_
            refine RT.brT rfl ?_
            refine RT.brT rfl ?_
            refine RT.br rfl (fun c7 => ?_) (fun c7 => ?_)
            · exact RT.done rfl rfl (Le.refl _) trivial rfl (dom0 rfl)
            · refine RT.goto rfl ?_
              refine RS.weak [(0, sq eI l0), (3, .ref 3 0 0 0 2), (16, sq eI l0), (17, .int .i64 (l0.length : Int)), (18, .int .i64 (wrap64 (x18 + 1)))] [(3, .box [.int .i64 a1_0, .int .i64 a1_1])] ⟨Le.eq (by first | rfl | simp), Le.eq (by first | rfl | simp), Le.eq (by first | rfl | simp), Le.eq (by first | rfl | simp), Le.eq (by first | rfl | simp), trivial⟩ ⟨⟨_, rfl, LeO.refl _⟩, trivial⟩ rfl (dom0 rfl) ?_
              exact ih l0 a1_0 a1_1 (wrap64 (x18 + 1)) 
          · refine RT.brF rfl ?_
            refine RT.brF rfl ?_
            refine RT.brF rfl ?_
            refine RT.brF rfl ?_
            refine RT.brF rfl ?_
            refine RT.brF rfl ?_
            refine RT.brF rfl ?_
            refine RT.brF rfl ?_
            refine RT.goto rfl ?_
            refine RS.weak [(0, sq eI l0), (3, .ref 3 0 0 0 2), (16, sq eI l0), (17, .int .i64 (l0.length : Int)), (18, .int .i64 (wrap64 (x18 + 1)))] [(3, .box [.int .i64 a1_0, .int .i64 a1_1])] ⟨Le.eq (by first | rfl | simp), Le.eq (by first | rfl | simp), Le.eq (by first | rfl | simp), Le.eq (by first | rfl | simp), Le.eq (by first | rfl | simp), trivial⟩ ⟨⟨_, rfl, LeO.refl _⟩, trivial⟩ rfl (dom0 rfl) ?_
            exact ih l0 a1_0 a1_1 (wrap64 (x18 + 1)) 
        · exact RT.done rfl rfl (Le.refl _) trivial rfl (dom0 rfl)
      · exact RT.done rfl rfl (Le.refl _) trivial rfl (dom0 rfl)
theorem pileref1_TimesFault.ok (k : Nat) (l0 : List Int) (a1_0 : Int) (a1_1 : Int) (r : Int) (h : pileref1_TimesFault.f k l0 a1_0 a1_1 = some r) : Ct Tryz.prog B 18 [sq eI l0, .agg [.int .i64 a1_0, .int .i64 a1_1]] (ofL []) (.int .i64 r) (ofL []) := by
  refine Ct.of (Y := (fam Tryz.f18 [] [] [] (fun r : Int => .int .i64 r) (fun r => []))) Tryz.func18 rfl Tryz.call18 rfl rfl ?_ r h
  unfold pileref1_TimesFault.f
  refine RS.go ?_
  refine RT.call0 rfl (fun _ h => pileref1_timeFault.ok a1_0 a1_1 _ h) (LeL.eq rfl) (fun _ => rfl) (fun r1 => ?_)
  refine RS.go ?_
  refine RT.brN rfl (fun c12 => ?_) (fun c12 => ?_)
  · refine RT.br rfl (fun c11 => ?_) (fun c11 => ?_)
    · exact RT.done rfl rfl (Le.refl _) trivial rfl (dom0 rfl)
    · refine RT.goto rfl ?_
      refine RS.weak [(0, sq eI l0), (3, .ref 3 0 0 0 2), (16, sq eI l0), (17, .int .i64 (l0.length : Int)), (18, .int .i64 0)] [(3, .box [.int .i64 a1_0, .int .i64 a1_1])] ⟨Le.eq (by first | rfl | simp), Le.eq (by first | rfl | simp), Le.eq (by first | rfl | simp), Le.eq (by first | rfl | simp), Le.eq (by first | rfl | simp), trivial⟩ ⟨⟨_, rfl, LeO.refl _⟩, trivial⟩ rfl (dom0 rfl) ?_
      exact pileref1_TimesFault.loops k l0 a1_0 a1_1 0 
  · exact RT.done rfl rfl (Le.refl _) trivial rfl (dom0 rfl)
/-! ### pilemake_Stream_RightTimes: function 5 -/
def pilemake_Stream_RightTimes.k0 : List DK := [⟨[3, 18], [3], [], [3]⟩, ⟨[17], [], [2], []⟩, ⟨[5], [5], [18], []⟩, ⟨[4], [], [17], []⟩]
def pilemake_Stream_RightTimes.k1 : List Nat := [0, 0, 1, 7]
def pilemake_Stream_RightTimes.l0 : Nat → Int → List Int → Int → Option ((List Int) × Int × Int × (List Int) × Int)
  | 0, _, _, _ => Option.none
  | k + 1, x6, o100000_0, o100000_1 => (if x6 < 6 then ((pilemake_Stream_TimesOf.f k o100000_0 o100000_1).bind fun r1 => ((pileref1_TimesFault.f k r1.1 r1.2.1 r1.2.2.1).bind fun r2 => (if r2 = 0 then Option.some (r1.1, r1.2.1, r1.2.2.1, r1.2.2.2.1, r1.2.2.2.2) else pilemake_Stream_RightTimes.l0 k (wrap64 (x6 + 1)) r1.2.2.2.1 r1.2.2.2.2))) else Option.some ([], 0, 3600000, o100000_0, o100000_1))
def pilemake_Stream_RightTimes.f (k : Nat) (p0_0 : List Int) (p0_1 : Int) : Option ((List Int) × Int × Int × (List Int) × Int) := pilemake_Stream_RightTimes.l0 k 0 p0_0 p0_1
theorem pilemake_Stream_RightTimes.loops (p0_0 : List Int) (p0_1 : Int) : ∀ k, (∀ (x6 : Int) (o100000_0 : List Int) (o100000_1 : Int), RS (fam Tryz.f5 [] [] [(100000, .box [sq eI p0_0, .int .i64 p0_1])] (fun r : (List Int) × Int × Int × (List Int) × Int => .tup [sq eI r.1, .agg [.int .i64 r.2.1, .int .i64 r.2.2.1]]) (fun r => [(100000, .box [sq eI r.2.2.2.1, .int .i64 r.2.2.2.2])])) (Func.head Tryz.f5 0) ⟨ofT [(0, .ref 100000 0 0 0 2), (3, .ref 3 0 0 0 2), (6, .int .i64 x6)], ofL [(3, .box [.int .i64 0, .int .i64 0]), (100000, .box [sq eI o100000_0, .int .i64 o100000_1])]⟩ (pilemake_Stream_RightTimes.l0 k x6 o100000_0 o100000_1))
  | 0 => by intro _ _ _; simp only [pilemake_Stream_RightTimes.l0]; exact RS.none
  | k + 1 => by
    have ih := pilemake_Stream_RightTimes.loops p0_0 p0_1 k
    · intro x6 o100000_0 o100000_1
      simp only [pilemake_Stream_RightTimes.l0]
      refine RS.go ?_
      refine RT.br rfl (fun c4 => ?_) (fun c4 => ?_)
      · refine RT.call rfl (fun _ h => pilemake_Stream_TimesOf.ok k o100000_0 o100000_1 _ h) (fun i => bif Nat.beq i 100000 then 100000 else i) (LeL.eq rfl) ⟨⟨_, rfl, LeO.refl _⟩, trivial⟩ (fun _ => rfl) (fun r1 => ?_)
        refine RS.go ?_
        refine RT.call0 rfl (fun _ h => pileref1_TimesFault.ok k r1.1 r1.2.1 r1.2.2.1 _ h) (LeL.eq rfl) (fun _ => rfl) (fun r2 => ?_)
        refine RS.go ?_
        refine RT.br rfl (fun c3 => ?_) (fun c3 => ?_)
        · refine RT.goto rfl ?_
          refine RS.draw rfl ?_
          refine RD.fin pilemake_Stream_RightTimes.k0 pilemake_Stream_RightTimes.k1 rfl rfl (by decide +kernel) ?_
          refine RS.go ?_
          exact RT.done rfl rfl (Le.tup (LeL.cons (Le.refl _) (LeL.cons (Le.refl _) (LeL.nil)))) ⟨⟨_, rfl, LeO.refl _⟩, trivial⟩ rfl (dom_of rfl)
        · refine RT.goto rfl ?_
          refine RS.weak [(0, .ref 100000 0 0 0 2), (3, .ref 3 0 0 0 2), (6, .int .i64 (wrap64 (x6 + 1)))] [(3, .box [.int .i64 0, .int .i64 0]), (100000, .box [sq eI r1.2.2.2.1, .int .i64 r1.2.2.2.2])] ⟨Le.eq (by first | rfl | simp), Le.eq (by first | rfl | simp), Le.eq (by first | rfl | simp), trivial⟩ ⟨⟨_, rfl, LeO.refl _⟩, ⟨_, rfl, LeO.refl _⟩, trivial⟩ rfl (dom_of rfl) ?_
          exact ih (wrap64 (x6 + 1)) r1.2.2.2.1 r1.2.2.2.2 
      · exact RT.done rfl rfl (Le.tup (LeL.cons (Le.nil _ _) (LeL.cons (Le.refl _) (LeL.nil)))) ⟨⟨_, rfl, LeO.refl _⟩, trivial⟩ rfl (dom_of rfl)
theorem pilemake_Stream_RightTimes.ok (k : Nat) (p0_0 : List Int) (p0_1 : Int) (r : (List Int) × Int × Int × (List Int) × Int) (h : pilemake_Stream_RightTimes.f k p0_0 p0_1 = some r) : Ct Tryz.prog B 5 [.ref 100000 0 0 0 2] (ofL [(100000, .box [sq eI p0_0, .int .i64 p0_1])]) (.tup [sq eI r.1, .agg [.int .i64 r.2.1, .int .i64 r.2.2.1]]) (ofL [(100000, .box [sq eI r.2.2.2.1, .int .i64 r.2.2.2.2])]) := by
  refine Ct.of (Y := (fam Tryz.f5 [] [] [(100000, .box [sq eI p0_0, .int .i64 p0_1])] (fun r : (List Int) × Int × Int × (List Int) × Int => .tup [sq eI r.1, .agg [.int .i64 r.2.1, .int .i64 r.2.2.1]]) (fun r => [(100000, .box [sq eI r.2.2.2.1, .int .i64 r.2.2.2.2])]))) Tryz.func5 rfl Tryz.call5 rfl rfl ?_ r h
  unfold pilemake_Stream_RightTimes.f
  refine RS.go ?_
  refine RT.goto rfl ?_
  refine RS.weak [(0, .ref 100000 0 0 0 2), (3, .ref 3 0 0 0 2), (6, .int .i64 0)] [(3, .box [.int .i64 0, .int .i64 0]), (100000, .box [sq eI p0_0, .int .i64 p0_1])] ⟨Le.eq (by first | rfl | simp), Le.eq (by first | rfl | simp), Le.eq (by first | rfl | simp), trivial⟩ ⟨⟨_, rfl, LeO.refl _⟩, ⟨_, rfl, LeO.refl _⟩, trivial⟩ rfl (dom_of rfl) ?_
  exact pilemake_Stream_RightTimes.loops p0_0 p0_1 k 0 p0_0 p0_1 
/-! ### pilemake_Stream_Some: function 21 -/
def pilemake_Stream_Some.f (k : Nat) (p0_0 : List Int) (p0_1 : Int) (l1 : List ByteArray) : Option (ByteArray × (List Int) × Int) := ((pilemake_Stream_Next.f k p0_0 p0_1 (l1.length : Int)).bind fun r1 => (if 0 ≤ r1.1 then (if r1.1 < (l1.length : Int) then Option.some ((rdE eS l1 r1.1), r1.2.1, r1.2.2) else Option.none) else Option.none))
theorem pilemake_Stream_Some.ok (k : Nat) (p0_0 : List Int) (p0_1 : Int) (l1 : List ByteArray) (r : ByteArray × (List Int) × Int) (h : pilemake_Stream_Some.f k p0_0 p0_1 l1 = some r) : Ct Tryz.prog B 21 [.ref 100000 0 0 0 2, sq eS l1] (ofL [(100000, .box [sq eI p0_0, .int .i64 p0_1])]) (.str r.1) (ofL [(100000, .box [sq eI r.2.1, .int .i64 r.2.2])]) := by
  refine Ct.of (Y := (fam Tryz.f21 [] [] [(100000, .box [sq eI p0_0, .int .i64 p0_1])] (fun r : ByteArray × (List Int) × Int => .str r.1) (fun r => [(100000, .box [sq eI r.2.1, .int .i64 r.2.2])]))) Tryz.func21 rfl Tryz.call21 rfl rfl ?_ r h
  unfold pilemake_Stream_Some.f
  refine RS.go ?_
  refine RT.call rfl (fun _ h => pilemake_Stream_Next.ok k p0_0 p0_1 (l1.length : Int) _ h) (fun i => bif Nat.beq i 100000 then 100000 else i) (LeL.eq rfl) ⟨⟨_, rfl, LeO.refl _⟩, trivial⟩ (fun _ => rfl) (fun r1 => ?_)
  refine RS.go ?_
  refine RT.br rfl (fun c2 => ?_) (fun c2 => RT.none)
  refine RT.br rfl (fun c3 => ?_) (fun c3 => RT.none)
  exact RT.done rfl rfl (Le.refl _) ⟨⟨_, rfl, LeO.refl _⟩, trivial⟩ rfl (dom_of rfl)
/-! ### pilemake_Stream_Shifts: function 6 -/
def pilemake_Stream_Shifts.k0 : List DK := [⟨[59, 55], [3], [], [3]⟩, ⟨[58], [3], [59], []⟩, ⟨[41], [3], [58], []⟩, ⟨[57, 48], [3], [], [3]⟩, ⟨[56], [3], [57], []⟩, ⟨[40], [3], [56], []⟩, ⟨[49, 54], [100000, 100000], [55], [100000]⟩, ⟨[53], [54], [54], []⟩, ⟨[52], [3], [53], []⟩, ⟨[51], [3], [52], []⟩, ⟨[50], [3], [51], []⟩, ⟨[5], [], [50], []⟩, ⟨[0], [], [49], []⟩, ⟨[42, 47], [100000, 100000], [48], [100000]⟩, ⟨[46], [47], [47], []⟩, ⟨[45], [3], [46], []⟩, ⟨[44], [3], [45], []⟩, ⟨[43], [3], [44], []⟩, ⟨[5], [], [43], []⟩, ⟨[0], [], [42], []⟩, ⟨[5], [], [41], []⟩, ⟨[5], [], [40], []⟩]
def pilemake_Stream_Shifts.k1 : List Nat := [0, 0, 0, 0, 8, 24, 56, 120, 252, 0, 0, 1024, 3072, 7168, 15360, 32764, 65533, 131069, 262141, 524287, 1048575, 2097151]
mutual
def pilemake_Stream_Shifts.j11 : Nat → List (Int × ByteArray) → List Int → Int → Option ((List (Int × ByteArray)) × (List Int) × Int)
  | 0, _, _, _ => Option.none
  | k + 1, o3j11, o100000_0j11, o100000_1j11 => Option.some (o3j11, o100000_0j11, o100000_1j11)
def pilemake_Stream_Shifts.l0 : Nat → Int → Int → Int → List (Int × ByteArray) → List Int → Int → Option ((List (Int × ByteArray)) × (List Int) × Int)
  | 0, _, _, _, _, _, _ => Option.none
  | k + 1, x4, x10, x11, o3, o100000_0, o100000_1 => (if x11 < x10 then ((pilemake_Stream_Some.f k o100000_0 o100000_1 [(⟨#[97, 110, 110]⟩ : ByteArray), (⟨#[98, 111, 98]⟩ : ByteArray), (⟨#[99, 105, 100]⟩ : ByteArray), (⟨#[]⟩ : ByteArray)]).bind fun r3 => (if o3.length + 1 ≤ 549755813888 then ((pilemake_Stream_Pick.f k r3.2.1 r3.2.2 [1, 100000, 2000000, 3600000]).bind fun r4 => pilemake_Stream_Shifts.l0 k (wrap64 (x4 + r4.1)) x10 (wrap64 (x11 + 1)) (o3 ++ [(x4, r3.1)]) r4.2.1 r4.2.2) else Option.none)) else (if (o3.length : Int) > 0 then ((pilemake_Stream_Flip.f k o100000_0 o100000_1 15).bind fun r6 => (if r6.1 = true then ((pilemake_Stream_Next.f k r6.2.1 r6.2.2 (o3.length : Int)).bind fun r7 => (if 0 ≤ r7.1 then (if r7.1 < (o3.length : Int) then ((pilemake_Stream_Pick.f k r7.2.1 r7.2.2 [(rdE e_IS o3 r7.1).1, (-1), 0]).bind fun r10 => ((pilemake_Stream_Some.f k r10.2.1 r10.2.2 [(rdE e_IS o3 r7.1).2, (⟨#[65]⟩ : ByteArray)]).bind fun r11 => pilemake_Stream_Shifts.j11 k ((o3.set (r7.1).toNat (r10.1, (rdE e_IS o3 r7.1).2)).set (r7.1).toNat ((rdE e_IS (o3.set (r7.1).toNat (r10.1, (rdE e_IS o3 r7.1).2)) r7.1).1, r11.1)) r11.2.1 r11.2.2)) else Option.none) else Option.none)) else pilemake_Stream_Shifts.j11 k o3 r6.2.1 r6.2.2)) else pilemake_Stream_Shifts.j11 k o3 o100000_0 o100000_1))
end
def pilemake_Stream_Shifts.f (k : Nat) (p0_0 : List Int) (p0_1 : Int) : Option ((List (Int × ByteArray)) × (List Int) × Int) := ((pilemake_Stream_Pick.f k p0_0 p0_1 [0, 500, 1000000]).bind fun r1 => ((pilemake_Stream_Range.f k r1.2.1 r1.2.2 0 6).bind fun r2 => pilemake_Stream_Shifts.l0 k r1.1 r2.1 0 [] r2.2.1 r2.2.2))
theorem pilemake_Stream_Shifts.loops (p0_0 : List Int) (p0_1 : Int) : ∀ k, (∀ (o3j11 : List (Int × ByteArray)) (o100000_0j11 : List Int) (o100000_1j11 : Int), RS (fam Tryz.f6 [11] [] [(100000, .box [sq eI p0_0, .int .i64 p0_1])] (fun r : (List (Int × ByteArray)) × (List Int) × Int => sq e_IS r.1) (fun r => [(100000, .box [sq eI r.2.1, .int .i64 r.2.2])])) (Func.reg Tryz.f6 11) ⟨ofT [(3, .osl 3 e_IS.w 0 o3j11.length o3j11.length)], ofL [(3, bufE e_IS o3j11), (100000, .box [sq eI o100000_0j11, .int .i64 o100000_1j11])]⟩ (pilemake_Stream_Shifts.j11 k o3j11 o100000_0j11 o100000_1j11)) ∧ (∀ (x4 : Int) (x10 : Int) (x11 : Int) (o3 : List (Int × ByteArray)) (o100000_0 : List Int) (o100000_1 : Int), RS (fam Tryz.f6 [11] [] [(100000, .box [sq eI p0_0, .int .i64 p0_1])] (fun r : (List (Int × ByteArray)) × (List Int) × Int => sq e_IS r.1) (fun r => [(100000, .box [sq eI r.2.1, .int .i64 r.2.2])])) (Func.head Tryz.f6 0) ⟨ofT [(0, .ref 100000 0 0 0 2), (3, .osl 3 e_IS.w 0 o3.length o3.length), (4, .int .i64 x4), (10, .int .i64 x10), (11, .int .i64 x11)], ofL [(3, bufE e_IS o3), (100000, .box [sq eI o100000_0, .int .i64 o100000_1])]⟩ (pilemake_Stream_Shifts.l0 k x4 x10 x11 o3 o100000_0 o100000_1))
  | 0 => ⟨by intro _ _ _; simp only [pilemake_Stream_Shifts.j11]; exact RS.none, by intro _ _ _ _ _ _; simp only [pilemake_Stream_Shifts.l0]; exact RS.none⟩
  | k + 1 => by
    have ih := pilemake_Stream_Shifts.loops p0_0 p0_1 k
    refine ⟨?_, ?_⟩
    · intro o3j11 o100000_0j11 o100000_1j11
      simp only [pilemake_Stream_Shifts.j11]
      refine RS.region ?_
      refine RS.go ?_
      refine RT.freeze 3 _ _ _ [(2, sq e_IS o3j11)] [(100000, .box [sq eI o100000_0j11, .int .i64 o100000_1j11])] rfl rfl ⟨.inr ⟨_, rfl, by first | exact Nat.le_refl _ | simp, rfl⟩, trivial⟩ ⟨⟨_, rfl, LeO.refl _⟩, trivial⟩ rfl (dom_of rfl) ?_
      exact RT.done rfl rfl (Le.refl _) ⟨⟨_, rfl, LeO.refl _⟩, trivial⟩ rfl (dom_of rfl)
    · intro x4 x10 x11 o3 o100000_0 o100000_1
      simp only [pilemake_Stream_Shifts.l0]
      refine RS.go ?_
      refine RT.br rfl (fun c14 => ?_) (fun c14 => ?_)
      · refine RT.goto rfl ?_
        refine RS.slot 16 (sq eS [(⟨#[97, 110, 110]⟩ : ByteArray), (⟨#[98, 111, 98]⟩ : ByteArray), (⟨#[99, 105, 100]⟩ : ByteArray), (⟨#[]⟩ : ByteArray)]) (Le.lit (E := eS) (l := [(⟨#[97, 110, 110]⟩ : ByteArray), (⟨#[98, 111, 98]⟩ : ByteArray), (⟨#[99, 105, 100]⟩ : ByteArray), (⟨#[]⟩ : ByteArray)]) (cells_of rfl)) ?_
        refine RS.go ?_
        refine RT.call rfl (fun _ h => pilemake_Stream_Some.ok k o100000_0 o100000_1 [(⟨#[97, 110, 110]⟩ : ByteArray), (⟨#[98, 111, 98]⟩ : ByteArray), (⟨#[99, 105, 100]⟩ : ByteArray), (⟨#[]⟩ : ByteArray)] _ h) (fun i => bif Nat.beq i 100000 then 100000 else i) (LeL.eq rfl) ⟨⟨_, rfl, LeO.refl _⟩, trivial⟩ (fun _ => rfl) (fun r3 => ?_)
        refine RS.go ?_
        refine RT.goto rfl ?_
        refine RS.slot 19 (sq e_IS [(x4, r3.1)]) (Le.lit (E := e_IS) (l := [(x4, r3.1)]) (cells_of rfl)) ?_
        refine RS.go ?_
        refine RT.req rfl ⟨by first | rfl | simp, by first | exact Nat.le_refl _ | simp⟩ ?_
        refine RT.not rfl (by simp <;> omega) ?_
        refine RT.br rfl (fun c5 => ?_) (fun _ => RT.none)
        refine RT.goto rfl ?_
        refine RS.obj 3 (bufE e_IS (o3 ++ [(x4, r3.1)])) ⟨_, rfl, LeO.app (l := o3) (m := [(x4, r3.1)]) fun _ _ _ _ => rfl⟩ ?_
        refine RS.slot 20 (.osl 3 e_IS.w 0 (o3 ++ [(x4, r3.1)]).length (o3 ++ [(x4, r3.1)]).length) (by first | exact Le.oslN rfl (by simp) | exact Le.trans (y := .osl 3 e_IS.w 0 (o3.length + 1) (o3.length + 1)) (Le.refl _) (Le.oslN rfl (by simp))) ?_
        refine RS.go ?_
        refine RT.goto rfl ?_
        refine RS.slot 23 (sq eI [1, 100000, 2000000, 3600000]) (Le.lit (E := eI) (l := [1, 100000, 2000000, 3600000]) (cells_of rfl)) ?_
        refine RS.go ?_
        refine RT.call rfl (fun _ h => pilemake_Stream_Pick.ok k r3.2.1 r3.2.2 [1, 100000, 2000000, 3600000] _ h) (fun i => bif Nat.beq i 100000 then 100000 else i) (LeL.eq rfl) ⟨⟨_, rfl, LeO.refl _⟩, trivial⟩ (fun _ => rfl) (fun r4 => ?_)
        refine RS.go ?_
        refine RT.goto rfl ?_
        refine RS.weak [(0, .ref 100000 0 0 0 2), (3, .osl 3 e_IS.w 0 (o3 ++ [(x4, r3.1)]).length (o3 ++ [(x4, r3.1)]).length), (4, .int .i64 (wrap64 (x4 + r4.1))), (10, .int .i64 x10), (11, .int .i64 (wrap64 (x11 + 1)))] [(3, bufE e_IS (o3 ++ [(x4, r3.1)])), (100000, .box [sq eI r4.2.1, .int .i64 r4.2.2])] ⟨Le.eq (by first | rfl | simp), (by first | exact Le.oslN rfl (by first | rfl | simp) | exact Le.refl _ | exact Le.eq (by first | rfl | simp)), Le.eq (by first | rfl | simp), Le.eq (by first | rfl | simp), Le.eq (by first | rfl | simp), trivial⟩ ⟨⟨_, rfl, LeO.refl _⟩, ⟨_, rfl, LeO.refl _⟩, trivial⟩ rfl (dom_of rfl) ?_
        exact ih.2 (wrap64 (x4 + r4.1)) x10 (wrap64 (x11 + 1)) (o3 ++ [(x4, r3.1)]) r4.2.1 r4.2.2 
      · refine RT.req rfl (by first | exact Nat.zero_add _ | rfl | simp [szf, szOf]) ?_
        refine RT.br rfl (fun c13 => ?_) (fun c13 => ?_)
        · refine RT.brT rfl ?_
          refine RT.call rfl (fun _ h => pilemake_Stream_Flip.ok k o100000_0 o100000_1 15 _ h) (fun i => bif Nat.beq i 100000 then 100000 else i) (LeL.eq rfl) ⟨⟨_, rfl, LeO.refl _⟩, trivial⟩ (fun _ => rfl) (fun r6 => ?_)
          refine RS.go ?_
          refine RT.brT rfl ?_
          refine RT.brB rfl (fun c12 => ?_) (fun c12 => ?_)
          · refine RT.req rfl (by first | exact Nat.zero_add _ | rfl | simp [szf, szOf]) ?_
            refine RT.call rfl (fun _ h => pilemake_Stream_Next.ok k r6.2.1 r6.2.2 (o3.length : Int) _ h) (fun i => bif Nat.beq i 100000 then 100000 else i) (LeL.eq rfl) ⟨⟨_, rfl, LeO.refl _⟩, trivial⟩ (fun _ => rfl) (fun r7 => ?_)
            refine RS.go ?_
            refine RT.req rfl (by first | exact Nat.zero_add _ | rfl | simp) ?_
            refine RT.br rfl (fun c8 => ?_) (fun c8 => RT.none)
            refine RT.br rfl (fun c9 => ?_) (fun c9 => RT.none)
            refine RT.goto rfl ?_
            refine RS.draw rfl ?_
            refine RD.req rfl (by first | rfl | simp) ?_
            refine RD.req rfl (by first | rfl | simp) ?_
            refine RD.req rfl ⟨by first | rfl | simp, elt_lt c8 (by first | exact c9 | simpa using c9)⟩ ?_
            refine RD.call (CR := []) (CW := (fun r => [(100000, .box [sq eI r.2.1, .int .i64 r.2.2])])) rfl (fun _ h => pilemake_Stream_Pick.ok k r7.2.1 r7.2.2 [(rdE e_IS o3 r7.1).1, (-1), 0] _ h) (fun i => bif Nat.beq i 100000 then 100000 else i) trivial (fun _ => rfl) ⟨_, _, _, _, rfl, rfl, rfl⟩ (LeL.cons (Le.refl _) (LeL.cons (Le.lit (E := eI) (l := [(rdE e_IS o3 r7.1).1, (-1), 0]) (cells_of rfl)) (LeL.nil))) ⟨⟨_, rfl, LeO.refl _⟩, trivial⟩ (fun _ => rfl) (fun r10 => ?_)
            refine RD.req rfl (by first | rfl | simp) ?_
            refine RD.req rfl (by first | rfl | simp) ?_
            refine RD.req rfl ⟨by first | rfl | simp, elt_lt c8 (by first | exact c9 | simpa using c9)⟩ ?_
            refine RD.call (CR := []) (CW := (fun r => [(100000, .box [sq eI r.2.1, .int .i64 r.2.2])])) rfl (fun _ h => pilemake_Stream_Some.ok k r10.2.1 r10.2.2 [(rdE e_IS o3 r7.1).2, (⟨#[65]⟩ : ByteArray)] _ h) (fun i => bif Nat.beq i 100000 then 100000 else i) trivial (fun _ => rfl) ⟨_, _, _, _, rfl, rfl, rfl⟩ (LeL.cons (Le.refl _) (LeL.cons (Le.lit (E := eS) (l := [(rdE e_IS o3 r7.1).2, (⟨#[65]⟩ : ByteArray)]) (cells_of rfl)) (LeL.nil))) ⟨⟨_, rfl, LeO.refl _⟩, trivial⟩ (fun _ => rfl) (fun r11 => ?_)
            refine RD.req rfl (by first | rfl | simp) ?_
            refine RD.req rfl (by first | rfl | simp) ?_
            refine RD.req rfl ⟨by first | rfl | simp, elt_lt c8 (by first | exact c9 | simpa using c9)⟩ ?_
            refine RD.req rfl (by first | rfl | simp) ?_
            refine RD.req rfl (by first | rfl | simp) ?_
            refine RD.req rfl ⟨by first | rfl | simp, elt_lt c8 (by first | exact c9 | simpa using c9)⟩ ?_
            refine RD.fin pilemake_Stream_Shifts.k0 pilemake_Stream_Shifts.k1 rfl rfl (by decide +kernel) ?_
            refine RS.obj 3 (bufE e_IS ((o3.set (r7.1).toNat (r10.1, (rdE e_IS o3 r7.1).2)).set (r7.1).toNat ((rdE e_IS (o3.set (r7.1).toNat (r10.1, (rdE e_IS o3 r7.1).2)) r7.1).1, r11.1))) ⟨_, rfl, LeO.setE2 (l := o3) (l' := o3.set (r7.1).toNat (r10.1, (rdE e_IS o3 r7.1).2)) (by simp) (rep_set c8 (by first | exact c9 | simpa using c9) (all2 rfl rfl)) c8 (by first | exact c9 | simpa using c9) (all2 rfl rfl)⟩ ?_
            refine RS.go ?_
            refine RT.goto rfl ?_
            refine RS.weak [(3, .osl 3 e_IS.w 0 ((o3.set (r7.1).toNat (r10.1, (rdE e_IS o3 r7.1).2)).set (r7.1).toNat ((rdE e_IS (o3.set (r7.1).toNat (r10.1, (rdE e_IS o3 r7.1).2)) r7.1).1, r11.1)).length ((o3.set (r7.1).toNat (r10.1, (rdE e_IS o3 r7.1).2)).set (r7.1).toNat ((rdE e_IS (o3.set (r7.1).toNat (r10.1, (rdE e_IS o3 r7.1).2)) r7.1).1, r11.1)).length)] [(3, bufE e_IS ((o3.set (r7.1).toNat (r10.1, (rdE e_IS o3 r7.1).2)).set (r7.1).toNat ((rdE e_IS (o3.set (r7.1).toNat (r10.1, (rdE e_IS o3 r7.1).2)) r7.1).1, r11.1))), (100000, .box [sq eI r11.2.1, .int .i64 r11.2.2])] ⟨(by first | exact Le.oslN rfl (by first | rfl | simp) | exact Le.refl _ | exact Le.eq (by first | rfl | simp)), trivial⟩ ⟨⟨_, rfl, LeO.refl _⟩, ⟨_, rfl, LeO.refl _⟩, trivial⟩ rfl (dom_of rfl) ?_
            exact ih.1 ((o3.set (r7.1).toNat (r10.1, (rdE e_IS o3 r7.1).2)).set (r7.1).toNat ((rdE e_IS (o3.set (r7.1).toNat (r10.1, (rdE e_IS o3 r7.1).2)) r7.1).1, r11.1)) r11.2.1 r11.2.2 
          · refine RT.goto rfl ?_
            refine RS.weak [(3, .osl 3 e_IS.w 0 o3.length o3.length)] [(3, bufE e_IS o3), (100000, .box [sq eI r6.2.1, .int .i64 r6.2.2])] ⟨(by first | exact Le.oslN rfl (by first | rfl | simp) | exact Le.refl _ | exact Le.eq (by first | rfl | simp)), trivial⟩ ⟨⟨_, rfl, LeO.refl _⟩, ⟨_, rfl, LeO.refl _⟩, trivial⟩ rfl (dom_of rfl) ?_
            exact ih.1 o3 r6.2.1 r6.2.2 
        · refine RT.brF rfl ?_
          refine RT.brF rfl ?_
          refine RT.brF rfl ?_
          refine RT.goto rfl ?_
          refine RS.weak [(3, .osl 3 e_IS.w 0 o3.length o3.length)] [(3, bufE e_IS o3), (100000, .box [sq eI o100000_0, .int .i64 o100000_1])] ⟨(by first | exact Le.oslN rfl (by first | rfl | simp) | exact Le.refl _ | exact Le.eq (by first | rfl | simp)), trivial⟩ ⟨⟨_, rfl, LeO.refl _⟩, ⟨_, rfl, LeO.refl _⟩, trivial⟩ rfl (dom_of rfl) ?_
          exact ih.1 o3 o100000_0 o100000_1 
theorem pilemake_Stream_Shifts.ok (k : Nat) (p0_0 : List Int) (p0_1 : Int) (r : (List (Int × ByteArray)) × (List Int) × Int) (h : pilemake_Stream_Shifts.f k p0_0 p0_1 = some r) : Ct Tryz.prog B 6 [.ref 100000 0 0 0 2] (ofL [(100000, .box [sq eI p0_0, .int .i64 p0_1])]) (sq e_IS r.1) (ofL [(100000, .box [sq eI r.2.1, .int .i64 r.2.2])]) := by
  refine Ct.of (Y := (fam Tryz.f6 [11] [] [(100000, .box [sq eI p0_0, .int .i64 p0_1])] (fun r : (List (Int × ByteArray)) × (List Int) × Int => sq e_IS r.1) (fun r => [(100000, .box [sq eI r.2.1, .int .i64 r.2.2])]))) Tryz.func6 rfl Tryz.call6 rfl rfl ?_ r h
  unfold pilemake_Stream_Shifts.f
  refine RS.go ?_
  refine RT.goto rfl ?_
  refine RS.slot 7 (sq eI [0, 500, 1000000]) (Le.lit (E := eI) (l := [0, 500, 1000000]) (cells_of rfl)) ?_
  refine RS.go ?_
  refine RT.call rfl (fun _ h => pilemake_Stream_Pick.ok k p0_0 p0_1 [0, 500, 1000000] _ h) (fun i => bif Nat.beq i 100000 then 100000 else i) (LeL.eq rfl) ⟨⟨_, rfl, LeO.refl _⟩, trivial⟩ (fun _ => rfl) (fun r1 => ?_)
  refine RS.go ?_
  refine RT.call rfl (fun _ h => pilemake_Stream_Range.ok k r1.2.1 r1.2.2 0 6 _ h) (fun i => bif Nat.beq i 100000 then 100000 else i) (LeL.eq rfl) ⟨⟨_, rfl, LeO.refl _⟩, trivial⟩ (fun _ => rfl) (fun r2 => ?_)
  refine RS.go ?_
  refine RT.goto rfl ?_
  refine RS.ghost 3 3 e_IS.w (rep e_IS []) rfl rfl ?_
  refine RS.weak [(0, .ref 100000 0 0 0 2), (3, .osl 3 e_IS.w 0 ([] : List (Int × ByteArray)).length ([] : List (Int × ByteArray)).length), (4, .int .i64 r1.1), (10, .int .i64 r2.1), (11, .int .i64 0)] [(3, bufE e_IS ([] : List (Int × ByteArray))), (100000, .box [sq eI r2.2.1, .int .i64 r2.2.2])] ⟨Le.eq (by first | rfl | simp), (by first | exact Le.oslN rfl (by first | rfl | simp) | exact Le.refl _ | exact Le.eq (by first | rfl | simp)), Le.eq (by first | rfl | simp), Le.eq (by first | rfl | simp), Le.eq (by first | rfl | simp), trivial⟩ ⟨⟨_, rfl, LeO.refl _⟩, ⟨_, rfl, LeO.refl _⟩, trivial⟩ rfl (dom_of rfl) ?_
  exact (pilemake_Stream_Shifts.loops p0_0 p0_1 k).2 r1.1 r2.1 0 [] r2.2.1 r2.2.2 
/-! ### pileref1_in: function 50 -/
def pileref1_in.f (a0 : Int) (a1 : Int) (a2 : Int) : Option (Bool) := (if a1 ≤ a0 then Option.some (decide (a0 ≤ a2)) else Option.some false)
theorem pileref1_in.ok (a0 : Int) (a1 : Int) (a2 : Int) (r : Bool) (h : pileref1_in.f a0 a1 a2 = some r) : Ct Tryz.prog B 50 [.int .i64 a0, .int .i64 a1, .int .i64 a2] (ofL []) (.bool r) (ofL []) := by
  refine Ct.of (Y := (fam Tryz.f50 [] [] [] (fun r : Bool => .bool r) (fun r => []))) Tryz.func50 rfl Tryz.call50 rfl rfl ?_ r h
  unfold pileref1_in.f
  refine RS.go ?_
  refine RT.br rfl (fun c1 => ?_) (fun c1 => ?_)
  · refine RT.brT rfl ?_
    refine RT.brT rfl ?_
    refine RT.brT rfl ?_
    exact RT.done rfl rfl (Le.refl _) trivial rfl (dom0 rfl)
  · refine RT.brF rfl ?_
    refine RT.brF rfl ?_
    refine RT.brF rfl ?_
    exact RT.done rfl rfl (Le.refl _) trivial rfl (dom0 rfl)
/-! ### pileref1_SpanFault: function 49 -/
def pileref1_SpanFault.f (a0 : Int) (a1 : Int) (a2 : Int) : Option (Int) := ((pileref1_in.f a0 a1 a2).bind fun r1 => (if r1 = true then Option.some 0 else Option.some 1))
theorem pileref1_SpanFault.ok (a0 : Int) (a1 : Int) (a2 : Int) (r : Int) (h : pileref1_SpanFault.f a0 a1 a2 = some r) : Ct Tryz.prog B 49 [.int .i64 a0, .int .i64 a1, .int .i64 a2] (ofL []) (.int .i64 r) (ofL []) := by
  refine Ct.of (Y := (fam Tryz.f49 [] [] [] (fun r : Int => .int .i64 r) (fun r => []))) Tryz.func49 rfl Tryz.call49 rfl rfl ?_ r h
  unfold pileref1_SpanFault.f
  refine RS.go ?_
  refine RT.call0 rfl (fun _ h => pileref1_in.ok a0 a1 a2 _ h) (LeL.eq rfl) (fun _ => rfl) (fun r1 => ?_)
  refine RS.go ?_
  refine RT.brBN rfl (fun c2 => ?_) (fun c2 => ?_)
  · exact RT.done rfl rfl (Le.refl _) trivial rfl (dom0 rfl)
  · exact RT.done rfl rfl (Le.refl _) trivial rfl (dom0 rfl)
/-! ### pileref1_MomentFault: function 24 -/
def pileref1_MomentFault.f (a0 : Int) : Option (Int) := ((pileref1_SpanFault.f a0 0 345686399999).bind fun r1 => Option.some r1)
theorem pileref1_MomentFault.ok (a0 : Int) (r : Int) (h : pileref1_MomentFault.f a0 = some r) : Ct Tryz.prog B 24 [.int .i64 a0] (ofL []) (.int .i64 r) (ofL []) := by
  refine Ct.of (Y := (fam Tryz.f24 [] [] [] (fun r : Int => .int .i64 r) (fun r => []))) Tryz.func24 rfl Tryz.call24 rfl rfl ?_ r h
  unfold pileref1_MomentFault.f
  refine RS.go ?_
  refine RT.call0 rfl (fun _ h => pileref1_SpanFault.ok a0 0 345686399999 _ h) (LeL.eq rfl) (fun _ => rfl) (fun r1 => ?_)
  refine RS.go ?_
  exact RT.done rfl rfl (Le.refl _) trivial rfl (dom0 rfl)
def strings_Trim.f (a0 : ByteArray) (a1 : ByteArray) : Option (ByteArray) := if a0.size ≤ 9223372036854775807 ∧ a1.size < 4294967281 ∧ asciiT a1 = true then some (⟨(Lib.trimS a0.data.toList a1.data.toList).toArray⟩ : ByteArray) else none
theorem strings_Trim.ok (a0 : ByteArray) (a1 : ByteArray) (r : ByteArray) (h : strings_Trim.f a0 a1 = some r) : Ct Tryz.prog B 51 [.str a0, .str a1] (ofL []) (.str r) (ofL []) := by
  unfold strings_Trim.f at h
  split at h
  case isFalse => cases h
  case isTrue c =>
  cases h
  refine Ct.lib Tryz.call51 rfl rfl fun g w hb => (Go.Proofs.Any.strings_Trim_laid Tryz.lays160 (by kernel_rfl) a0 a1 w c.1 c.2.1 (asciiT_at c.2.2)).mono fun e w' ⟨he, hw⟩ => ⟨he, hw⟩

def strings_IndexByte.f (a0 : ByteArray) (a1 : Int) : Option (Int) := some (Lib.indexByte a0.data.toList a1.toNat.toUInt8)
theorem strings_IndexByte.ok (a0 : ByteArray) (a1 : Int) (r : Int) (h : strings_IndexByte.f a0 a1 = some r) : Ct Tryz.prog B 52 [.str a0, .int .u8 a1] (ofL []) (.int .i64 r) (ofL []) := by
  unfold strings_IndexByte.f at h
  cases h
  refine Ct.lib Tryz.call52 rfl rfl fun g w hb => (Tryz.strings_IndexByte a0 a1 w).mono fun e w' ⟨he, hw⟩ => ⟨he, hw ▸ Below.refl _ _⟩

/-! ### pileref1_Key: function 25 -/
def pileref1_Key.f (a0 : ByteArray) : Option (Bool) := ((pileref1_in.f (a0.size : Int) 1 40).bind fun r1 => (if r1 = true then ((strings_Trim.f a0 str_0).bind fun r2 => (if r2 = (⟨#[]⟩ : ByteArray) then (if 0 < (a0.size : Int) then ((strings_IndexByte.f str_1 (bt a0 0)).bind fun r4 => Option.some (decide (r4 ≥ 0))) else Option.none) else Option.some false)) else Option.some false))
theorem pileref1_Key.ok (a0 : ByteArray) (r : Bool) (h : pileref1_Key.f a0 = some r) : Ct Tryz.prog B 25 [.str a0] (ofL []) (.bool r) (ofL []) := by
  refine Ct.of (Y := (fam Tryz.f25 [] [] [] (fun r : Bool => .bool r) (fun r => []))) Tryz.func25 rfl Tryz.call25 rfl rfl ?_ r h
  unfold pileref1_Key.f
  refine RS.go ?_
  refine RT.call0 rfl (fun _ h => pileref1_in.ok (a0.size : Int) 1 40 _ h) (LeL.eq rfl) (fun _ => rfl) (fun r1 => ?_)
  refine RS.go ?_
  refine RT.brB rfl (fun c6 => ?_) (fun c6 => ?_)
  · refine RT.brT rfl ?_
    refine RT.call0 rfl (fun _ h => strings_Trim.ok a0 str_0 _ h) (LeL.eq rfl) (fun _ => rfl) (fun r2 => ?_)
    refine RS.go ?_
    refine RT.brT rfl ?_
    refine RT.brT rfl ?_
    refine RT.br rfl (fun c5 => ?_) (fun c5 => ?_)
    · refine RT.brT rfl ?_
      refine RT.brT rfl ?_
      refine RT.br rfl (fun c3 => ?_) (fun c3 => RT.none)
      refine RT.brT rfl ?_
      refine RT.call0 rfl (fun _ h => strings_IndexByte.ok str_1 (bt a0 0) _ h) (LeL.eq rfl) (fun _ => rfl) (fun r4 => ?_)
      refine RS.go ?_
      refine RT.brT rfl ?_
      refine RT.brT rfl ?_
      exact RT.done rfl rfl (Le.refl _) trivial rfl (dom0 rfl)
    · refine RT.brF rfl ?_
      refine RT.brF rfl ?_
      refine RT.brF rfl ?_
      refine RT.brF rfl ?_
      exact RT.done rfl rfl (Le.refl _) trivial rfl (dom0 rfl)
  · refine RT.brF rfl ?_
    refine RT.brF rfl ?_
    refine RT.brF rfl ?_
    refine RT.brF rfl ?_
    refine RT.brF rfl ?_
    refine RT.brF rfl ?_
    refine RT.brF rfl ?_
    refine RT.brF rfl ?_
    exact RT.done rfl rfl (Le.refl _) trivial rfl (dom0 rfl)
/-! ### slices_Clone_string_string: function 53 -/
def slices_Clone_string_string.f (l0 : List ByteArray) : Option ((List ByteArray)) := (if ([] : List ByteArray).length + l0.length ≤ 549755813888 then Option.some (([] : List ByteArray) ++ l0) else Option.none)
theorem slices_Clone_string_string.ok (l0 : List ByteArray) (r : (List ByteArray)) (h : slices_Clone_string_string.f l0 = some r) : Ct Tryz.prog B 53 [sq eS l0] (ofL []) (.osl 5 eS.w 0 r.length r.length) (ofL [(5, bufE eS r)]) := by
  refine Ct.of (Y := (fam Tryz.f53 [] [5] [] (fun r : (List ByteArray) => .osl 5 eS.w 0 r.length r.length) (fun r => [(5, bufE eS r)]))) Tryz.func53 rfl Tryz.call53 rfl rfl ?_ r h
  unfold slices_Clone_string_string.f
  refine RS.go ?_
  refine RT.nilq rfl (fun h1 => ?_) ?_
  · have h1 := List.eq_nil_of_length_eq_zero h1
    subst h1
    refine RT.conv (Option.some []) (by first | rfl | simp) ?_
    refine RT.brT rfl ?_
    refine RT.ghost 2 5 eS.w (rep eS []) rfl rfl rfl ?_
    exact RT.done rfl rfl (Le.refl _) ⟨⟨_, rfl, LeO.refl _⟩, trivial⟩ rfl (dom0 rfl)
  · refine RT.brF rfl ?_
    refine RT.goto rfl ?_
    refine RS.obj 5 (bufE eS ([] : List ByteArray)) ⟨_, rfl, LeO.lit (l := ([] : List ByteArray)) (cells_of rfl)⟩ ?_
    refine RS.slot 5 (.osl 5 eS.w 0 ([] : List ByteArray).length ([] : List ByteArray).length) (Le.oslN rfl (by simp)) ?_
    refine RS.go ?_
    refine RT.req rfl ⟨by first | rfl | simp, by first | exact Nat.le_refl _ | simp⟩ ?_
    refine RT.appL (E := eS) (l := ([] : List ByteArray)) (m := l0) rfl (fun _ _ _ _ => rfl) ?_
    refine RS.go ?_
    exact RT.done rfl rfl (Le.refl _) ⟨⟨_, rfl, LeO.refl _⟩, trivial⟩ rfl (dom0 rfl)
def slices_Sort_string_string.f (l0 : List ByteArray) : Option (List ByteArray) := if l0.length < 4611686018427387904 then some (sortB l0) else none
theorem slices_Sort_string_string.ok (l0 r : List ByteArray) (h : slices_Sort_string_string.f l0 = some r) : Ct Tryz.prog B 54 [.osl 100000 1 0 l0.length l0.length] (ofL [(100000, bufE eS l0)]) (.tup []) (ofL [(100000, bufE eS r)]) := by
  unfold slices_Sort_string_string.f at h
  split at h
  case isFalse => cases h
  case isTrue c =>
  cases h
  refine Ct.row (E := eS) (enc := Value.string) rfl (fun _ => rfl) (sortB_len l0) Tryz.call54 (fun b cap w hH hb _ => ?_) (fun hl p w => by subst hl; exact Tryz.slices_Sort_string_none p 0 w)
  have h1 := Tryz.slices_Sort_string b 0 cap (l0.map fun s => s.data.toList) w (strRow_holds hH) hb (by rw [List.length_map]; exact c)
  rw [List.length_map] at h1
  refine h1.mono fun e w' ⟨he, n, os, hw⟩ => ⟨he, n, os, ?_⟩
  rw [hw, ← sortB_map, strRow_put]

def slices_Compact_string_string.f (l0 : List ByteArray) : Option ((List ByteArray) × (List ByteArray)) := if l0.length ≤ 9223372036854775807 then some (compS l0, List.replicate (l0.length - (compS l0).length) ByteArray.empty) else none
theorem slices_Compact_string_string.ok (l0 : List ByteArray) (r : (List ByteArray) × (List ByteArray)) (h : slices_Compact_string_string.f l0 = some r) : Ct Tryz.prog B 55 [.osl 100000 1 0 l0.length l0.length] (ofL [(100000, bufE eS l0)]) (.osl 100000 1 0 r.1.length (r.1 ++ r.2).length) (ofL [(100000, bufE eS (r.1 ++ r.2))]) := by
  unfold slices_Compact_string_string.f at h
  split at h
  case isFalse => cases h
  case isTrue c =>
  cases h
  have hle := compS_len l0
  have hlc : (Lib.compact (l0.map fun s => s.data.toList)).length = (compS l0).length := by rw [← compS_map, List.length_map]
  refine Ct.rowCut (E := eS) (enc := Value.string) (l := l0) (a := compS l0) (t := List.replicate (l0.length - (compS l0).length) ByteArray.empty) rfl (fun _ => rfl) (by simp; omega) Tryz.call55 (fun b cap w hH hb hcap => ?_) (fun hl p w => by subst hl; exact Tryz.slices_Compact_string_empty p 0 w)
  have h1 := Tryz.slices_Compact_string b 0 cap (l0.map fun s => s.data.toList) w (strRow_holds hH) (by rw [List.length_map]; exact c) (by rw [List.length_map]; exact hcap)
  rw [List.length_map, hlc] at h1
  refine h1.mono fun e w' ⟨he, n, hw⟩ => ⟨he, n, #[], ?_⟩
  rw [Go.Sort.grow_empty, hw, ← strRow_put, List.map_append, compS_map, empty_map]

/-! ### pileref1_once: function 26 -/
def pileref1_once.f (l0 : List ByteArray) : Option ((List ByteArray)) := ((slices_Clone_string_string.f l0).bind fun r1 => ((slices_Sort_string_string.f r1).bind fun r2 => (if r1.length = r2.length then ((slices_Compact_string_string.f r2).bind fun r4 => Option.some r4.1) else Option.none)))
theorem pileref1_once.ok (l0 : List ByteArray) (r : (List ByteArray)) (h : pileref1_once.f l0 = some r) : Ct Tryz.prog B 26 [sq eS l0] (ofL []) (sq eS r) (ofL []) := by
  refine Ct.of (Y := (fam Tryz.f26 [] [] [] (fun r : (List ByteArray) => sq eS r) (fun r => []))) Tryz.func26 rfl Tryz.call26 rfl rfl ?_ r h
  unfold pileref1_once.f
  refine RS.go ?_
  refine RT.call rfl (fun _ h => slices_Clone_string_string.ok l0 _ h) (fun i => bif Nat.beq i 5 then 4 else i) (LeL.eq rfl) trivial (fun _ => rfl) (fun r1 => ?_)
  refine RS.go ?_
  refine RT.call rfl (fun _ h => slices_Sort_string_string.ok r1 _ h) (fun i => bif Nat.beq i 100000 then 4 else i) (LeL.eq rfl) ⟨⟨_, rfl, LeO.refl _⟩, trivial⟩ (fun _ => rfl) (fun r2 => ?_)
  refine RS.asm (fun c3 => ?_)
  refine RS.slot 0 (.osl 4 eS.w 0 r2.length r2.length) (Le.oslN rfl c3) ?_
  refine RS.slot 4 (.osl 4 eS.w 0 r2.length r2.length) (Le.oslN rfl c3) ?_
  refine RS.slot 5 (.osl 4 eS.w 0 r2.length r2.length) (Le.oslN rfl c3) ?_
  refine RS.go ?_
  refine RT.call rfl (fun _ h => slices_Compact_string_string.ok r2 _ h) (fun i => bif Nat.beq i 100000 then 4 else i) (LeL.eq rfl) ⟨⟨_, rfl, LeO.refl _⟩, trivial⟩ (fun _ => rfl) (fun r4 => ?_)
  refine RS.go ?_
  refine RT.freeze 4 _ _ _ [(2, .sl r4.1.length eS.w (rep eS (r4.1 ++ r4.2)))] [] rfl rfl ⟨.inr ⟨_, rfl, by first | exact Nat.le_refl _ | simp, rfl⟩, trivial⟩ trivial rfl (dom0 rfl) ?_
  exact RT.done rfl rfl Le.pre trivial rfl (dom0 rfl)
/-! ### pileref1_ShiftsFault: function 7 -/
def pileref1_ShiftsFault.k0 : List DK := [⟨[44], [], [31], []⟩, ⟨[34, 43], [], [44], []⟩, ⟨[34, 36, 42], [], [43], []⟩, ⟨[34, 41], [], [42], []⟩, ⟨[34, 40], [], [41], []⟩, ⟨[34, 37, 39], [], [40], []⟩, ⟨[34, 38], [], [39], []⟩, ⟨[34, 4], [], [38], []⟩, ⟨[34, 0], [], [37], []⟩, ⟨[34, 35], [5], [36], []⟩, ⟨[34, 5], [5], [35], []⟩, ⟨[33], [], [34], []⟩, ⟨[32], [], [33], []⟩, ⟨[4], [], [32], []⟩]
def pileref1_ShiftsFault.k1 : List Nat := [0, 1, 3, 7, 15, 7, 7, 71, 231, 487, 999, 2047, 4095, 8191]
def pileref1_ShiftsFault.k2 : List DK := [⟨[44], [], [31], []⟩, ⟨[34, 43], [], [44], []⟩, ⟨[34], [], [43], []⟩, ⟨[34], [], [42], []⟩, ⟨[34], [], [41], []⟩, ⟨[34], [], [40], []⟩, ⟨[34], [], [39], []⟩, ⟨[34], [], [38], []⟩, ⟨[34], [], [37], []⟩, ⟨[34], [], [36], []⟩, ⟨[34], [], [35], []⟩, ⟨[33], [], [34], []⟩, ⟨[32], [], [33], []⟩, ⟨[4], [], [32], []⟩]
mutual
def pileref1_ShiftsFault.j15 : Nat → List (Int × ByteArray) → Int → List ByteArray → Option (Int)
  | 0, _, _, _ => Option.none
  | k + 1, l0, x11, o3j15 => pileref1_ShiftsFault.l0 k l0 (wrap64 (x11 + 1)) o3j15
def pileref1_ShiftsFault.l0 : Nat → List (Int × ByteArray) → Int → List ByteArray → Option (Int)
  | 0, _, _, _ => Option.none
  | k + 1, l0, x11, o3 => (if x11 < (l0.length : Int) then (if 0 ≤ x11 then (if x11 < (l0.length : Int) then ((pileref1_MomentFault.f ((rdE e_IS l0 x11).1)).bind fun r3 => (if r3 = 0 then (if (rdE e_IS l0 x11).2 = (⟨#[]⟩ : ByteArray) then (if x11 > 0 then (if 0 ≤ wrap64 (x11 - 1) then (if wrap64 (x11 - 1) < (l0.length : Int) then (if (rdE e_IS l0 x11).1 ≤ (rdE e_IS l0 (wrap64 (x11 - 1))).1 then Option.some 7 else (if (rdE e_IS l0 x11).2 = (⟨#[]⟩ : ByteArray) then pileref1_ShiftsFault.j15 k l0 x11 o3 else (if o3.length + 1 ≤ 549755813888 then pileref1_ShiftsFault.j15 k l0 x11 (o3 ++ [(rdE e_IS l0 x11).2]) else Option.none))) else Option.none) else Option.none) else (if (rdE e_IS l0 x11).2 = (⟨#[]⟩ : ByteArray) then pileref1_ShiftsFault.j15 k l0 x11 o3 else (if o3.length + 1 ≤ 549755813888 then pileref1_ShiftsFault.j15 k l0 x11 (o3 ++ [(rdE e_IS l0 x11).2]) else Option.none))) else ((pileref1_Key.f ((rdE e_IS l0 x11).2)).bind fun r4 => (if r4 = true then (if x11 > 0 then (if 0 ≤ wrap64 (x11 - 1) then (if wrap64 (x11 - 1) < (l0.length : Int) then (if (rdE e_IS l0 x11).1 ≤ (rdE e_IS l0 (wrap64 (x11 - 1))).1 then Option.some 7 else (if (rdE e_IS l0 x11).2 = (⟨#[]⟩ : ByteArray) then pileref1_ShiftsFault.j15 k l0 x11 o3 else (if o3.length + 1 ≤ 549755813888 then pileref1_ShiftsFault.j15 k l0 x11 (o3 ++ [(rdE e_IS l0 x11).2]) else Option.none))) else Option.none) else Option.none) else (if (rdE e_IS l0 x11).2 = (⟨#[]⟩ : ByteArray) then pileref1_ShiftsFault.j15 k l0 x11 o3 else (if o3.length + 1 ≤ 549755813888 then pileref1_ShiftsFault.j15 k l0 x11 (o3 ++ [(rdE e_IS l0 x11).2]) else Option.none))) else Option.some 5))) else Option.some 1)) else Option.none) else Option.none) else ((pileref1_once.f o3).bind fun r24 => (if (r24.length : Int) > 50 then Option.some 2 else Option.some 0)))
end
def pileref1_ShiftsFault.f (k : Nat) (l0 : List (Int × ByteArray)) : Option (Int) := (if (l0.length : Int) > 500 then Option.some 2 else pileref1_ShiftsFault.l0 k l0 0 [])
theorem pileref1_ShiftsFault.loops : ∀ k, (∀ (l0 : List (Int × ByteArray)) (x11 : Int) (o3j15 : List ByteArray), RS (fam Tryz.f7 [15, 16] [] [] (fun r : Int => .int .i64 r) (fun r => [])) (Func.reg Tryz.f7 15) ⟨ofT [(0, sq e_IS l0), (3, .osl 3 eS.w 0 o3j15.length o3j15.length), (9, sq e_IS l0), (10, .int .i64 (l0.length : Int)), (11, .int .i64 x11)], ofL [(3, bufE eS o3j15)]⟩ (pileref1_ShiftsFault.j15 k l0 x11 o3j15)) ∧ (∀ (l0 : List (Int × ByteArray)) (x11 : Int) (o3 : List ByteArray), RS (fam Tryz.f7 [15, 16] [] [] (fun r : Int => .int .i64 r) (fun r => [])) (Func.head Tryz.f7 0) ⟨ofT [(0, sq e_IS l0), (3, .osl 3 eS.w 0 o3.length o3.length), (9, sq e_IS l0), (10, .int .i64 (l0.length : Int)), (11, .int .i64 x11)], ofL [(3, bufE eS o3)]⟩ (pileref1_ShiftsFault.l0 k l0 x11 o3))
  | 0 => ⟨by intro _ _ _; simp only [pileref1_ShiftsFault.j15]; exact RS.none, by intro _ _ _; simp only [pileref1_ShiftsFault.l0]; exact RS.none⟩
  | k + 1 => by
    have ih := pileref1_ShiftsFault.loops k
    refine ⟨?_, ?_⟩
    · intro l0 x11 o3j15
      simp only [pileref1_ShiftsFault.j15]
      refine RS.region ?_
      refine RS.go ?_
      refine RT.goto rfl ?_
      refine RS.weak [(0, sq e_IS l0), (3, .osl 3 eS.w 0 o3j15.length o3j15.length), (9, sq e_IS l0), (10, .int .i64 (l0.length : Int)), (11, .int .i64 (wrap64 (x11 + 1)))] [(3, bufE eS o3j15)] ⟨Le.eq (by first | rfl | simp), (by first | exact Le.oslN rfl (by first | rfl | simp) | exact Le.refl _ | exact Le.eq (by first | rfl | simp)), Le.eq (by first | rfl | simp), Le.eq (by first | rfl | simp), Le.eq (by first | rfl | simp), trivial⟩ ⟨⟨_, rfl, LeO.refl _⟩, trivial⟩ rfl (dom0 rfl) ?_
      exact ih.2 l0 (wrap64 (x11 + 1)) o3j15 
    · intro l0 x11 o3
      simp only [pileref1_ShiftsFault.l0]
      refine RS.go ?_
      refine RT.br rfl (fun c26 => ?_) (fun c26 => ?_)
      · refine RT.br rfl (fun c1 => ?_) (fun c1 => RT.none)
        refine RT.br rfl (fun c2 => ?_) (fun c2 => RT.none)
        refine RT.call0 rfl (fun _ h => pileref1_MomentFault.ok ((rdE e_IS l0 x11).1) _ h) (LeL.eq rfl) (fun _ => rfl) (fun r3 => ?_)
        refine RS.go ?_
        refine RT.brN rfl (fun c23 => ?_) (fun c23 => ?_)
        · refine RT.brN rfl (fun c22 => ?_) (fun c22 => ?_)
          · refine RT.brF rfl ?_
            refine RT.brF rfl ?_
            refine RT.brF rfl ?_
            refine RT.brF rfl ?_
            refine RT.brF rfl ?_
            refine RT.goto rfl ?_
            refine RS.draw rfl ?_
            refine RD.br rfl (fun c21 => ?_) (fun c21 => ?_)
            · refine RD.brT rfl ?_
              refine RD.brT rfl ?_
              refine RD.brT rfl ?_
              refine RD.brT rfl ?_
              refine RD.brT rfl ?_
              refine RD.br rfl (fun c14 => ?_) (fun c14 => RD.none)
              refine RD.br rfl (fun c15 => ?_) (fun c15 => RD.none)
              refine RD.brT rfl ?_
              refine RD.brT rfl ?_
              refine RD.brT rfl ?_
              refine RD.brT rfl ?_
              refine RD.fin pileref1_ShiftsFault.k0 pileref1_ShiftsFault.k1 rfl rfl (by decide +kernel) ?_
              refine RS.go ?_
              refine RT.br rfl (fun c18 => ?_) (fun c18 => ?_)
              · exact RT.done rfl rfl (Le.refl _) trivial rfl (dom0 rfl)
              · refine RT.brN rfl (fun c17 => ?_) (fun c17 => ?_)
                · refine RT.goto rfl ?_
                  refine RS.weak [(0, sq e_IS l0), (3, .osl 3 eS.w 0 o3.length o3.length), (9, sq e_IS l0), (10, .int .i64 (l0.length : Int)), (11, .int .i64 x11)] [(3, bufE eS o3)] ⟨Le.eq (by first | rfl | simp), (by first | exact Le.oslN rfl (by first | rfl | simp) | exact Le.refl _ | exact Le.eq (by first | rfl | simp)), Le.eq (by first | rfl | simp), Le.eq (by first | rfl | simp), Le.eq (by first | rfl | simp), trivial⟩ ⟨⟨_, rfl, LeO.refl _⟩, trivial⟩ rfl (dom0 rfl) ?_
                  exact ih.1 l0 x11 o3 
                · refine RT.goto rfl ?_
                  refine RS.slot 51 (sq eS [(rdE e_IS l0 x11).2]) (Le.lit (E := eS) (l := [(rdE e_IS l0 x11).2]) (cells_of rfl)) ?_
                  refine RS.go ?_
                  refine RT.req rfl ⟨by first | rfl | simp, by first | exact Nat.le_refl _ | simp⟩ ?_
                  refine RT.not rfl (by simp <;> omega) ?_
                  refine RT.br rfl (fun c16 => ?_) (fun _ => RT.none)
                  refine RT.goto rfl ?_
                  refine RS.obj 3 (bufE eS (o3 ++ [(rdE e_IS l0 x11).2])) ⟨_, rfl, LeO.app (l := o3) (m := [(rdE e_IS l0 x11).2]) fun _ _ _ _ => rfl⟩ ?_
                  refine RS.slot 52 (.osl 3 eS.w 0 (o3 ++ [(rdE e_IS l0 x11).2]).length (o3 ++ [(rdE e_IS l0 x11).2]).length) (by first | exact Le.oslN rfl (by simp) | exact Le.trans (y := .osl 3 eS.w 0 (o3.length + 1) (o3.length + 1)) (Le.refl _) (Le.oslN rfl (by simp))) ?_
                  refine RS.go ?_
                  refine RT.goto rfl ?_
                  refine RS.weak [(0, sq e_IS l0), (3, .osl 3 eS.w 0 (o3 ++ [(rdE e_IS l0 x11).2]).length (o3 ++ [(rdE e_IS l0 x11).2]).length), (9, sq e_IS l0), (10, .int .i64 (l0.length : Int)), (11, .int .i64 x11)] [(3, bufE eS (o3 ++ [(rdE e_IS l0 x11).2]))] ⟨Le.eq (by first | rfl | simp), (by first | exact Le.oslN rfl (by first | rfl | simp) | exact Le.refl _ | exact Le.eq (by first | rfl | simp)), Le.eq (by first | rfl | simp), Le.eq (by first | rfl | simp), Le.eq (by first | rfl | simp), trivial⟩ ⟨⟨_, rfl, LeO.refl _⟩, trivial⟩ rfl (dom0 rfl) ?_
                  exact ih.1 l0 x11 (o3 ++ [(rdE e_IS l0 x11).2]) 
            · refine RD.brF rfl ?_
              refine RD.brF rfl ?_
              refine RD.brF rfl ?_
              refine RD.brF rfl ?_
              refine RD.brF rfl ?_
              refine RD.brF rfl ?_
              refine RD.brF rfl ?_
              refine RD.brF rfl ?_
              refine RD.brF rfl ?_
              refine RD.fin pileref1_ShiftsFault.k2 pileref1_ShiftsFault.k1 rfl rfl (by decide +kernel) ?_
              refine RS.go ?_
              refine RT.brF rfl ?_
              refine RT.brN rfl (fun c20 => ?_) (fun c20 => ?_)
              · refine RT.goto rfl ?_
                refine RS.weak [(0, sq e_IS l0), (3, .osl 3 eS.w 0 o3.length o3.length), (9, sq e_IS l0), (10, .int .i64 (l0.length : Int)), (11, .int .i64 x11)] [(3, bufE eS o3)] ⟨Le.eq (by first | rfl | simp), (by first | exact Le.oslN rfl (by first | rfl | simp) | exact Le.refl _ | exact Le.eq (by first | rfl | simp)), Le.eq (by first | rfl | simp), Le.eq (by first | rfl | simp), Le.eq (by first | rfl | simp), trivial⟩ ⟨⟨_, rfl, LeO.refl _⟩, trivial⟩ rfl (dom0 rfl) ?_
                exact ih.1 l0 x11 o3 
              · refine RT.goto rfl ?_
                refine RS.slot 51 (sq eS [(rdE e_IS l0 x11).2]) (Le.lit (E := eS) (l := [(rdE e_IS l0 x11).2]) (cells_of rfl)) ?_
                refine RS.go ?_
                refine RT.req rfl ⟨by first | rfl | simp, by first | exact Nat.le_refl _ | simp⟩ ?_
                refine RT.not rfl (by simp <;> omega) ?_
                refine RT.br rfl (fun c19 => ?_) (fun _ => RT.none)
                refine RT.goto rfl ?_
                refine RS.obj 3 (bufE eS (o3 ++ [(rdE e_IS l0 x11).2])) ⟨_, rfl, LeO.app (l := o3) (m := [(rdE e_IS l0 x11).2]) fun _ _ _ _ => rfl⟩ ?_
                refine RS.slot 52 (.osl 3 eS.w 0 (o3 ++ [(rdE e_IS l0 x11).2]).length (o3 ++ [(rdE e_IS l0 x11).2]).length) (by first | exact Le.oslN rfl (by simp) | exact Le.trans (y := .osl 3 eS.w 0 (o3.length + 1) (o3.length + 1)) (Le.refl _) (Le.oslN rfl (by simp))) ?_
                refine RS.go ?_
                refine RT.goto rfl ?_
                refine RS.weak [(0, sq e_IS l0), (3, .osl 3 eS.w 0 (o3 ++ [(rdE e_IS l0 x11).2]).length (o3 ++ [(rdE e_IS l0 x11).2]).length), (9, sq e_IS l0), (10, .int .i64 (l0.length : Int)), (11, .int .i64 x11)] [(3, bufE eS (o3 ++ [(rdE e_IS l0 x11).2]))] ⟨Le.eq (by first | rfl | simp), (by first | exact Le.oslN rfl (by first | rfl | simp) | exact Le.refl _ | exact Le.eq (by first | rfl | simp)), Le.eq (by first | rfl | simp), Le.eq (by first | rfl | simp), Le.eq (by first | rfl | simp), trivial⟩ ⟨⟨_, rfl, LeO.refl _⟩, trivial⟩ rfl (dom0 rfl) ?_
                exact ih.1 l0 x11 (o3 ++ [(rdE e_IS l0 x11).2]) 
          · refine RT.brT rfl ?_
            refine RT.brT rfl ?_
            refine RT.call0 rfl (fun _ h => pileref1_Key.ok ((rdE e_IS l0 x11).2) _ h) (LeL.eq rfl) (fun _ => rfl) (fun r4 => ?_)
            refine RS.go ?_
            refine RT.brT rfl ?_
            refine RT.brT rfl ?_
            refine RT.brBN rfl (fun c13 => ?_) (fun c13 => ?_)
            · refine RT.goto rfl ?_
              refine RS.draw rfl ?_
              refine RD.br rfl (fun c12 => ?_) (fun c12 => ?_)
              · refine RD.brT rfl ?_
                refine RD.brT rfl ?_
                refine RD.brT rfl ?_
                refine RD.brT rfl ?_
                refine RD.brT rfl ?_
                refine RD.br rfl (fun c5 => ?_) (fun c5 => RD.none)
                refine RD.br rfl (fun c6 => ?_) (fun c6 => RD.none)
                refine RD.brT rfl ?_
                refine RD.brT rfl ?_
                refine RD.brT rfl ?_
                refine RD.brT rfl ?_
                refine RD.fin pileref1_ShiftsFault.k0 pileref1_ShiftsFault.k1 rfl rfl (by decide +kernel) ?_
                refine RS.go ?_
                refine RT.br rfl (fun c9 => ?_) (fun c9 => ?_)
                · exact RT.done rfl rfl (Le.refl _) trivial rfl (dom0 rfl)
                · refine RT.brN rfl (fun c8 => ?_) (fun c8 => ?_)
                  · refine RT.goto rfl ?_
                    refine RS.weak [(0, sq e_IS l0), (3, .osl 3 eS.w 0 o3.length o3.length), (9, sq e_IS l0), (10, .int .i64 (l0.length : Int)), (11, .int .i64 x11)] [(3, bufE eS o3)] ⟨Le.eq (by first | rfl | simp), (by first | exact Le.oslN rfl (by first | rfl | simp) | exact Le.refl _ | exact Le.eq (by first | rfl | simp)), Le.eq (by first | rfl | simp), Le.eq (by first | rfl | simp), Le.eq (by first | rfl | simp), trivial⟩ ⟨⟨_, rfl, LeO.refl _⟩, trivial⟩ rfl (dom0 rfl) ?_
                    exact ih.1 l0 x11 o3 
                  · refine RT.goto rfl ?_
                    refine RS.slot 51 (sq eS [(rdE e_IS l0 x11).2]) (Le.lit (E := eS) (l := [(rdE e_IS l0 x11).2]) (cells_of rfl)) ?_
                    refine RS.go ?_
                    refine RT.req rfl ⟨by first | rfl | simp, by first | exact Nat.le_refl _ | simp⟩ ?_
                    refine RT.not rfl (by simp <;> omega) ?_
                    refine RT.br rfl (fun c7 => ?_) (fun _ => RT.none)
                    refine RT.goto rfl ?_
                    refine RS.obj 3 (bufE eS (o3 ++ [(rdE e_IS l0 x11).2])) ⟨_, rfl, LeO.app (l := o3) (m := [(rdE e_IS l0 x11).2]) fun _ _ _ _ => rfl⟩ ?_
                    refine RS.slot 52 (.osl 3 eS.w 0 (o3 ++ [(rdE e_IS l0 x11).2]).length (o3 ++ [(rdE e_IS l0 x11).2]).length) (by first | exact Le.oslN rfl (by simp) | exact Le.trans (y := .osl 3 eS.w 0 (o3.length + 1) (o3.length + 1)) (Le.refl _) (Le.oslN rfl (by simp))) ?_
                    refine RS.go ?_
                    refine RT.goto rfl ?_
                    refine RS.weak [(0, sq e_IS l0), (3, .osl 3 eS.w 0 (o3 ++ [(rdE e_IS l0 x11).2]).length (o3 ++ [(rdE e_IS l0 x11).2]).length), (9, sq e_IS l0), (10, .int .i64 (l0.length : Int)), (11, .int .i64 x11)] [(3, bufE eS (o3 ++ [(rdE e_IS l0 x11).2]))] ⟨Le.eq (by first | rfl | simp), (by first | exact Le.oslN rfl (by first | rfl | simp) | exact Le.refl _ | exact Le.eq (by first | rfl | simp)), Le.eq (by first | rfl | simp), Le.eq (by first | rfl | simp), Le.eq (by first | rfl | simp), trivial⟩ ⟨⟨_, rfl, LeO.refl _⟩, trivial⟩ rfl (dom0 rfl) ?_
                    exact ih.1 l0 x11 (o3 ++ [(rdE e_IS l0 x11).2]) 
              · refine RD.brF rfl ?_
                refine RD.brF rfl ?_
                refine RD.brF rfl ?_
                refine RD.brF rfl ?_
                refine RD.brF rfl ?_
                refine RD.brF rfl ?_
                refine RD.brF rfl ?_
                refine RD.brF rfl ?_
                refine RD.brF rfl ?_
                refine RD.fin pileref1_ShiftsFault.k2 pileref1_ShiftsFault.k1 rfl rfl (by decide +kernel) ?_
                refine RS.go ?_
                refine RT.brF rfl ?_
                refine RT.brN rfl (fun c11 => ?_) (fun c11 => ?_)
                · refine RT.goto rfl ?_
                  refine RS.weak [(0, sq e_IS l0), (3, .osl 3 eS.w 0 o3.length o3.length), (9, sq e_IS l0), (10, .int .i64 (l0.length : Int)), (11, .int .i64 x11)] [(3, bufE eS o3)] ⟨Le.eq (by first | rfl | simp), (by first | exact Le.oslN rfl (by first | rfl | simp) | exact Le.refl _ | exact Le.eq (by first | rfl | simp)), Le.eq (by first | rfl | simp), Le.eq (by first | rfl | simp), Le.eq (by first | rfl | simp), trivial⟩ ⟨⟨_, rfl, LeO.refl _⟩, trivial⟩ rfl (dom0 rfl) ?_
                  exact ih.1 l0 x11 o3 
                · refine RT.goto rfl ?_
                  refine RS.slot 51 (sq eS [(rdE e_IS l0 x11).2]) (Le.lit (E := eS) (l := [(rdE e_IS l0 x11).2]) (cells_of rfl)) ?_
                  refine RS.go ?_
                  refine RT.req rfl ⟨by first | rfl | simp, by first | exact Nat.le_refl _ | simp⟩ ?_
                  refine RT.not rfl (by simp <;> omega) ?_
                  refine RT.br rfl (fun c10 => ?_) (fun _ => RT.none)
                  refine RT.goto rfl ?_
                  refine RS.obj 3 (bufE eS (o3 ++ [(rdE e_IS l0 x11).2])) ⟨_, rfl, LeO.app (l := o3) (m := [(rdE e_IS l0 x11).2]) fun _ _ _ _ => rfl⟩ ?_
                  refine RS.slot 52 (.osl 3 eS.w 0 (o3 ++ [(rdE e_IS l0 x11).2]).length (o3 ++ [(rdE e_IS l0 x11).2]).length) (by first | exact Le.oslN rfl (by simp) | exact Le.trans (y := .osl 3 eS.w 0 (o3.length + 1) (o3.length + 1)) (Le.refl _) (Le.oslN rfl (by simp))) ?_
                  refine RS.go ?_
                  refine RT.goto rfl ?_
                  refine RS.weak [(0, sq e_IS l0), (3, .osl 3 eS.w 0 (o3 ++ [(rdE e_IS l0 x11).2]).length (o3 ++ [(rdE e_IS l0 x11).2]).length), (9, sq e_IS l0), (10, .int .i64 (l0.length : Int)), (11, .int .i64 x11)] [(3, bufE eS (o3 ++ [(rdE e_IS l0 x11).2]))] ⟨Le.eq (by first | rfl | simp), (by first | exact Le.oslN rfl (by first | rfl | simp) | exact Le.refl _ | exact Le.eq (by first | rfl | simp)), Le.eq (by first | rfl | simp), Le.eq (by first | rfl | simp), Le.eq (by first | rfl | simp), trivial⟩ ⟨⟨_, rfl, LeO.refl _⟩, trivial⟩ rfl (dom0 rfl) ?_
                  exact ih.1 l0 x11 (o3 ++ [(rdE e_IS l0 x11).2]) 
            · exact RT.done rfl rfl (Le.refl _) trivial rfl (dom0 rfl)
        · exact RT.done rfl rfl (Le.refl _) trivial rfl (dom0 rfl)
      · refine RT.goto rfl ?_
        refine RS.freeze 3 _ _ _ [(3, sq eS o3)] [] rfl ⟨.inr ⟨_, rfl, by first | exact Nat.le_refl _ | simp, rfl⟩, trivial⟩ trivial rfl (dom0 rfl) ?_
        refine RS.region ?_
        refine RS.go ?_
        refine RT.call0 rfl (fun _ h => pileref1_once.ok o3 _ h) (LeL.eq rfl) (fun _ => rfl) (fun r24 => ?_)
        refine RS.go ?_
        refine RT.br rfl (fun c25 => ?_) (fun c25 => ?_)
        · exact RT.done rfl rfl (Le.refl _) trivial rfl (dom0 rfl)
        · exact RT.done rfl rfl (Le.refl _) trivial rfl (dom0 rfl)
theorem pileref1_ShiftsFault.ok (k : Nat) (l0 : List (Int × ByteArray)) (r : Int) (h : pileref1_ShiftsFault.f k l0 = some r) : Ct Tryz.prog B 7 [sq e_IS l0] (ofL []) (.int .i64 r) (ofL []) := by
  refine Ct.of (Y := (fam Tryz.f7 [15, 16] [] [] (fun r : Int => .int .i64 r) (fun r => []))) Tryz.func7 rfl Tryz.call7 rfl rfl ?_ r h
  unfold pileref1_ShiftsFault.f
  refine RS.go ?_
  refine RT.br rfl (fun c27 => ?_) (fun c27 => ?_)
  · exact RT.done rfl rfl (Le.refl _) trivial rfl (dom0 rfl)
  · refine RT.goto rfl ?_
    refine RS.ghost 3 3 eS.w (rep eS []) rfl rfl ?_
    refine RS.weak [(0, sq e_IS l0), (3, .osl 3 eS.w 0 ([] : List ByteArray).length ([] : List ByteArray).length), (9, sq e_IS l0), (10, .int .i64 (l0.length : Int)), (11, .int .i64 0)] [(3, bufE eS ([] : List ByteArray))] ⟨Le.eq (by first | rfl | simp), (by first | exact Le.oslN rfl (by first | rfl | simp) | exact Le.refl _ | exact Le.eq (by first | rfl | simp)), Le.eq (by first | rfl | simp), Le.eq (by first | rfl | simp), Le.eq (by first | rfl | simp), trivial⟩ ⟨⟨_, rfl, LeO.refl _⟩, trivial⟩ rfl (dom0 rfl) ?_
    exact (pileref1_ShiftsFault.loops k).2 l0 0 [] 
/-! ### call_isLetter: function 137 -/
def call_isLetter.f (a0 : Int) : Option (Bool) := (if a0 ≥ 97 then Option.some (decide (a0 ≤ 122)) else Option.some false)
theorem call_isLetter.ok (a0 : Int) (r : Bool) (h : call_isLetter.f a0 = some r) : Ct Tryz.prog B 137 [.int .u8 a0] (ofL []) (.bool r) (ofL []) := by
  refine Ct.of (Y := (fam Tryz.f137 [] [] [] (fun r : Bool => .bool r) (fun r => []))) Tryz.func137 rfl Tryz.call137 rfl rfl ?_ r h
  unfold call_isLetter.f
  refine RS.go ?_
  refine RT.br rfl (fun c1 => ?_) (fun c1 => ?_)
  · refine RT.brT rfl ?_
    refine RT.brT rfl ?_
    exact RT.done rfl rfl (Le.refl _) trivial rfl (dom0 rfl)
  · refine RT.brF rfl ?_
    refine RT.brF rfl ?_
    exact RT.done rfl rfl (Le.refl _) trivial rfl (dom0 rfl)
/-! ### call_isDigit: function 119 -/
def call_isDigit.f (a0 : Int) : Option (Bool) := (if a0 ≥ 48 then Option.some (decide (a0 ≤ 57)) else Option.some false)
theorem call_isDigit.ok (a0 : Int) (r : Bool) (h : call_isDigit.f a0 = some r) : Ct Tryz.prog B 119 [.int .u8 a0] (ofL []) (.bool r) (ofL []) := by
  refine Ct.of (Y := (fam Tryz.f119 [] [] [] (fun r : Bool => .bool r) (fun r => []))) Tryz.func119 rfl Tryz.call119 rfl rfl ?_ r h
  unfold call_isDigit.f
  refine RS.go ?_
  refine RT.br rfl (fun c1 => ?_) (fun c1 => ?_)
  · refine RT.brT rfl ?_
    refine RT.brT rfl ?_
    exact RT.done rfl rfl (Le.refl _) trivial rfl (dom0 rfl)
  · refine RT.brF rfl ?_
    refine RT.brF rfl ?_
    exact RT.done rfl rfl (Le.refl _) trivial rfl (dom0 rfl)
/-! ### call_isPlain: function 118 -/
mutual
def call_isPlain.j8 : Nat → ByteArray → Int → Int → Option (Int × Bool)
  | 0, _, _, _ => Option.none
  | k + 1, a0, x7, x2j8 => call_isPlain.l0 k a0 x2j8 (wrap64 (x7 + 1))
def call_isPlain.l0 : Nat → ByteArray → Int → Int → Option (Int × Bool)
  | 0, _, _, _ => Option.none
  | k + 1, a0, x2, x7 => (if x7 < (a0.size : Int) then (if 0 ≤ x7 then (if x7 < (a0.size : Int) then ((call_isLetter.f (bt a0 x7)).bind fun r3 => (if r3 = true then call_isPlain.j8 k a0 x7 (wrap64 (x2 + 1)) else (if 0 ≤ x7 then (if x7 < (a0.size : Int) then ((call_isDigit.f (bt a0 x7)).bind fun r6 => (if r6 = true then call_isPlain.j8 k a0 x7 x2 else Option.some (0, false))) else Option.none) else Option.none))) else Option.none) else Option.none) else Option.some (x2, true))
end
def call_isPlain.f (k : Nat) (a0 : ByteArray) : Option (Int × Bool) := call_isPlain.l0 k a0 0 0
theorem call_isPlain.loops : ∀ k, (∀ (a0 : ByteArray) (x7 : Int) (x2j8 : Int), RS (fam Tryz.f118 [8] [] [] (fun r : Int × Bool => .tup [.int .i64 r.1, .bool r.2]) (fun r => [])) (Func.reg Tryz.f118 8) ⟨ofT [(0, .str a0), (2, .int .i64 x2j8), (6, .int .i64 (a0.size : Int)), (7, .int .i64 x7)], ofL []⟩ (call_isPlain.j8 k a0 x7 x2j8)) ∧ (∀ (a0 : ByteArray) (x2 : Int) (x7 : Int), RS (fam Tryz.f118 [8] [] [] (fun r : Int × Bool => .tup [.int .i64 r.1, .bool r.2]) (fun r => [])) (Func.head Tryz.f118 0) ⟨ofT [(0, .str a0), (2, .int .i64 x2), (6, .int .i64 (a0.size : Int)), (7, .int .i64 x7)], ofL []⟩ (call_isPlain.l0 k a0 x2 x7))
  | 0 => ⟨by intro _ _ _; simp only [call_isPlain.j8]; exact RS.none, by intro _ _ _; simp only [call_isPlain.l0]; exact RS.none⟩
  | k + 1 => by
    have ih := call_isPlain.loops k
    refine ⟨?_, ?_⟩
    · intro a0 x7 x2j8
      simp only [call_isPlain.j8]
      refine RS.region ?_
      refine RS.go ?_
      refine RT.goto rfl ?_
      refine RS.weak [(0, .str a0), (2, .int .i64 x2j8), (6, .int .i64 (a0.size : Int)), (7, .int .i64 (wrap64 (x7 + 1)))] [] ⟨Le.eq (by first | rfl | simp), Le.eq (by first | rfl | simp), Le.eq (by first | rfl | simp), Le.eq (by first | rfl | simp), trivial⟩ trivial rfl (dom0 rfl) ?_
      exact ih.2 a0 x2j8 (wrap64 (x7 + 1)) 
    · intro a0 x2 x7
      simp only [call_isPlain.l0]
      refine RS.go ?_
      refine RT.br rfl (fun c9 => ?_) (fun c9 => ?_)
      · refine RT.br rfl (fun c1 => ?_) (fun c1 => RT.none)
        refine RT.br rfl (fun c2 => ?_) (fun c2 => RT.none)
        refine RT.call0 rfl (fun _ h => call_isLetter.ok (bt a0 x7) _ h) (LeL.eq rfl) (fun _ => rfl) (fun r3 => ?_)
        refine RS.go ?_
        refine RT.brB rfl (fun c8 => ?_) (fun c8 => ?_)
        · refine RT.goto rfl ?_
          refine RS.weak [(0, .str a0), (2, .int .i64 (wrap64 (x2 + 1))), (6, .int .i64 (a0.size : Int)), (7, .int .i64 x7)] [] ⟨Le.eq (by first | rfl | simp), Le.eq (by first | rfl | simp), Le.eq (by first | rfl | simp), Le.eq (by first | rfl | simp), trivial⟩ trivial rfl (dom0 rfl) ?_
          exact ih.1 a0 x7 (wrap64 (x2 + 1)) 
        · refine RT.br rfl (fun c4 => ?_) (fun c4 => RT.none)
          refine RT.br rfl (fun c5 => ?_) (fun c5 => RT.none)
          refine RT.call0 rfl (fun _ h => call_isDigit.ok (bt a0 x7) _ h) (LeL.eq rfl) (fun _ => rfl) (fun r6 => ?_)
          refine RS.go ?_
          refine RT.brBN rfl (fun c7 => ?_) (fun c7 => ?_)
          · refine RT.goto rfl ?_
            refine RS.weak [(0, .str a0), (2, .int .i64 x2), (6, .int .i64 (a0.size : Int)), (7, .int .i64 x7)] [] ⟨Le.eq (by first | rfl | simp), Le.eq (by first | rfl | simp), Le.eq (by first | rfl | simp), Le.eq (by first | rfl | simp), trivial⟩ trivial rfl (dom0 rfl) ?_
            exact ih.1 a0 x7 x2 
          · exact RT.done rfl rfl (Le.tup (LeL.cons (Le.refl _) (LeL.cons (Le.refl _) (LeL.nil)))) trivial rfl (dom0 rfl)
      · exact RT.done rfl rfl (Le.tup (LeL.cons (Le.refl _) (LeL.cons (Le.refl _) (LeL.nil)))) trivial rfl (dom0 rfl)
theorem call_isPlain.ok (k : Nat) (a0 : ByteArray) (r : Int × Bool) (h : call_isPlain.f k a0 = some r) : Ct Tryz.prog B 118 [.str a0] (ofL []) (.tup [.int .i64 r.1, .bool r.2]) (ofL []) := by
  refine Ct.of (Y := (fam Tryz.f118 [8] [] [] (fun r : Int × Bool => .tup [.int .i64 r.1, .bool r.2]) (fun r => []))) Tryz.func118 rfl Tryz.call118 rfl rfl ?_ r h
  unfold call_isPlain.f
  refine RS.go ?_
  refine RT.goto rfl ?_
  refine RS.weak [(0, .str a0), (2, .int .i64 0), (6, .int .i64 (a0.size : Int)), (7, .int .i64 0)] [] ⟨Le.eq (by first | rfl | simp), Le.eq (by first | rfl | simp), Le.eq (by first | rfl | simp), Le.eq (by first | rfl | simp), trivial⟩ trivial rfl (dom0 rfl) ?_
  exact (call_isPlain.loops k).2 a0 0 0 
def strings_IndexRune.f (a0 : ByteArray) (a1 : Int) : Option (Int) := if 0 ≤ a1 ∧ a1 < 128 then some (Lib.indexByte a0.data.toList a1.toNat.toUInt8) else none
theorem strings_IndexRune.ok (a0 : ByteArray) (a1 : Int) (r : Int) (h : strings_IndexRune.f a0 a1 = some r) : Ct Tryz.prog B 129 [.str a0, .int .i32 a1] (ofL []) (.int .i64 r) (ofL []) := by
  unfold strings_IndexRune.f at h
  split at h
  case isFalse => cases h
  case isTrue c =>
  cases h
  refine Ct.lib Tryz.call129 rfl rfl fun g w hb => (Tryz.strings_IndexRune_ascii a0 a1 w c.1 c.2).mono fun e w' ⟨he, hw⟩ => ⟨he, hw ▸ Below.refl _ _⟩

/-! ### strings_shouldUseASCIISet: function 145 -/
def strings_shouldUseASCIISet.f (a0 : Int) : Option (Bool) := Option.some (decide (a0 > 8))
theorem strings_shouldUseASCIISet.ok (a0 : Int) (r : Bool) (h : strings_shouldUseASCIISet.f a0 = some r) : Ct Tryz.prog B 145 [.int .i64 a0] (ofL []) (.bool r) (ofL []) := by
  refine Ct.of (Y := (fam Tryz.f145 [] [] [] (fun r : Bool => .bool r) (fun r => []))) Tryz.func145 rfl Tryz.call145 rfl rfl ?_ r h
  unfold strings_shouldUseASCIISet.f
  refine RS.go ?_
  exact RT.done rfl rfl (Le.refl _) trivial rfl (dom0 rfl)
/-! ### unicode_utf8_decodeRuneInStringSlow: function 128 -/
def unicode_utf8_decodeRuneInStringSlow.f (a0 : ByteArray) : Option (Int × Int) := (if (a0.size : Int) < 1 then Option.some (65533, 0) else Option.none)
theorem unicode_utf8_decodeRuneInStringSlow.ok (a0 : ByteArray) (r : Int × Int) (h : unicode_utf8_decodeRuneInStringSlow.f a0 = some r) : Ct Tryz.prog B 128 [.str a0] (ofL []) (.tup [.int .i32 r.1, .int .i64 r.2]) (ofL []) := by
  refine Ct.of (Y := (fam Tryz.f128 [] [] [] (fun r : Int × Int => .tup [.int .i32 r.1, .int .i64 r.2]) (fun r => []))) Tryz.func128 rfl Tryz.call128 rfl rfl ?_ r h
  unfold unicode_utf8_decodeRuneInStringSlow.f
  refine RS.go ?_
  refine RT.br rfl (fun c2 => ?_) (fun c2 => ?_)
  · exact RT.done rfl rfl (Le.tup (LeL.cons (Le.refl _) (LeL.cons (Le.refl _) (LeL.nil)))) trivial rfl (dom0 rfl)
  · exact RT.none
/-! ### unicode_utf8_DecodeRuneInString: function 103 -/
def unicode_utf8_DecodeRuneInString.f (a0 : ByteArray) : Option (Int × Int) := (if a0 = (⟨#[]⟩ : ByteArray) then ((unicode_utf8_decodeRuneInStringSlow.f a0).bind fun r5 => Option.some (r5.1, r5.2)) else (if 0 < (a0.size : Int) then (if bt a0 0 < 128 then (if 0 < (a0.size : Int) then Option.some (IntKind.i32.wrap (bt a0 0), 1) else Option.none) else ((unicode_utf8_decodeRuneInStringSlow.f a0).bind fun r3 => Option.some (r3.1, r3.2))) else Option.none))
theorem unicode_utf8_DecodeRuneInString.ok (a0 : ByteArray) (r : Int × Int) (h : unicode_utf8_DecodeRuneInString.f a0 = some r) : Ct Tryz.prog B 103 [.str a0] (ofL []) (.tup [.int .i32 r.1, .int .i64 r.2]) (ofL []) := by
  refine Ct.of (Y := (fam Tryz.f103 [] [] [] (fun r : Int × Int => .tup [.int .i32 r.1, .int .i64 r.2]) (fun r => []))) Tryz.func103 rfl Tryz.call103 rfl rfl ?_ r h
  unfold unicode_utf8_DecodeRuneInString.f
  refine RS.go ?_
  refine RT.brN rfl (fun c6 => ?_) (fun c6 => ?_)
  · refine RT.brF rfl ?_
    refine RT.brF rfl ?_
    refine RT.brF rfl ?_
    refine RT.brF rfl ?_
    refine RT.call0 rfl (fun _ h => unicode_utf8_decodeRuneInStringSlow.ok a0 _ h) (LeL.eq rfl) (fun _ => rfl) (fun r5 => ?_)
    refine RS.go ?_
    exact RT.done rfl rfl (Le.tup (LeL.cons (Le.refl _) (LeL.cons (Le.refl _) (LeL.nil)))) trivial rfl (dom0 rfl)
  · refine RT.brT rfl ?_
    refine RT.brT rfl ?_
    refine RT.br rfl (fun c1 => ?_) (fun c1 => RT.none)
    refine RT.brT rfl ?_
    refine RT.brT rfl ?_
    refine RT.br rfl (fun c4 => ?_) (fun c4 => ?_)
    · refine RT.brT rfl ?_
      refine RT.br rfl (fun c2 => ?_) (fun c2 => RT.none)
      exact RT.done rfl rfl (Le.tup (LeL.cons (Le.refl _) (LeL.cons (Le.refl _) (LeL.nil)))) trivial rfl (dom0 rfl)
    · refine RT.call0 rfl (fun _ h => unicode_utf8_decodeRuneInStringSlow.ok a0 _ h) (LeL.eq rfl) (fun _ => rfl) (fun r3 => ?_)
      refine RS.go ?_
      exact RT.done rfl rfl (Le.tup (LeL.cons (Le.refl _) (LeL.cons (Le.refl _) (LeL.nil)))) trivial rfl (dom0 rfl)
/-! ### unicode_utf8_DecodeLastRuneInString: function 105 -/
mutual
def unicode_utf8_DecodeLastRuneInString.j15 : Nat → ByteArray → Int → Option (Int × Int)
  | 0, _, _ => Option.none
  | k + 1, a0, x5j15 => (if 0 ≤ (a0.size : Int) then (if (a0.size : Int) ≤ (a0.size : Int) then (if 0 ≤ x5j15 then (if x5j15 ≤ (a0.size : Int) then ((unicode_utf8_DecodeRuneInString.f (a0.extract (x5j15).toNat ((a0.size : Int)).toNat)).bind fun r9 => (if wrap64 (x5j15 + r9.2) = (a0.size : Int) then Option.some (r9.1, r9.2) else Option.some (65533, 1))) else Option.none) else Option.none) else Option.none) else Option.none)
def unicode_utf8_DecodeLastRuneInString.l0 : Nat → ByteArray → Option (Int × Int)
  | 0, _ => Option.none
  | k + 1, a0 => (if wrap64 ((wrap64 ((a0.size : Int) - 1)) - 1) ≥ mx (wrap64 ((a0.size : Int) - 4)) 0 then Option.none else (if wrap64 ((wrap64 ((a0.size : Int) - 1)) - 1) < 0 then unicode_utf8_DecodeLastRuneInString.j15 k a0 0 else unicode_utf8_DecodeLastRuneInString.j15 k a0 (wrap64 ((wrap64 ((a0.size : Int) - 1)) - 1))))
end
def unicode_utf8_DecodeLastRuneInString.f (k : Nat) (a0 : ByteArray) : Option (Int × Int) := (if (a0.size : Int) = 0 then Option.some (65533, 0) else (if 0 ≤ wrap64 ((a0.size : Int) - 1) then (if wrap64 ((a0.size : Int) - 1) < (a0.size : Int) then (if IntKind.i32.wrap (bt a0 (wrap64 ((a0.size : Int) - 1))) < 128 then Option.some (IntKind.i32.wrap (bt a0 (wrap64 ((a0.size : Int) - 1))), 1) else unicode_utf8_DecodeLastRuneInString.l0 k a0) else Option.none) else Option.none))
theorem unicode_utf8_DecodeLastRuneInString.loops : ∀ k, (∀ (a0 : ByteArray) (x5j15 : Int), RS (fam Tryz.f105 [15] [] [] (fun r : Int × Int => .tup [.int .i32 r.1, .int .i64 r.2]) (fun r => [])) (Func.reg Tryz.f105 15) ⟨ofT [(0, .str a0), (4, .int .i64 (a0.size : Int)), (5, .int .i64 x5j15)], ofL []⟩ (unicode_utf8_DecodeLastRuneInString.j15 k a0 x5j15)) ∧ (∀ (a0 : ByteArray), RS (fam Tryz.f105 [15] [] [] (fun r : Int × Int => .tup [.int .i32 r.1, .int .i64 r.2]) (fun r => [])) (Func.head Tryz.f105 0) ⟨ofT [(0, .str a0), (4, .int .i64 (a0.size : Int)), (5, .int .i64 (wrap64 ((wrap64 ((a0.size : Int) - 1)) - 1))), (6, .int .i64 (mx (wrap64 ((a0.size : Int) - 4)) 0))], ofL []⟩ (unicode_utf8_DecodeLastRuneInString.l0 k a0))
  | 0 => ⟨by intro _ _; simp only [unicode_utf8_DecodeLastRuneInString.j15]; exact RS.none, by intro _; simp only [unicode_utf8_DecodeLastRuneInString.l0]; exact RS.none⟩
  | k + 1 => by
    have ih := unicode_utf8_DecodeLastRuneInString.loops k
    refine ⟨?_, ?_⟩
    · intro a0 x5j15
      simp only [unicode_utf8_DecodeLastRuneInString.j15]
      refine RS.region ?_
      refine RS.go ?_
      refine RT.br rfl (fun c5 => ?_) (fun c5 => RT.none)
      refine RT.br rfl (fun c6 => ?_) (fun c6 => RT.none)
      refine RT.br rfl (fun c7 => ?_) (fun c7 => RT.none)
      refine RT.br rfl (fun c8 => ?_) (fun c8 => RT.none)
      refine RT.call0 rfl (fun _ h => unicode_utf8_DecodeRuneInString.ok (a0.extract (x5j15).toNat ((a0.size : Int)).toNat) _ h) (LeL.eq rfl) (fun _ => rfl) (fun r9 => ?_)
      refine RS.go ?_
      refine RT.brN rfl (fun c10 => ?_) (fun c10 => ?_)
      · exact RT.done rfl rfl (Le.tup (LeL.cons (Le.refl _) (LeL.cons (Le.refl _) (LeL.nil)))) trivial rfl (dom0 rfl)
      · exact RT.done rfl rfl (Le.tup (LeL.cons (Le.refl _) (LeL.cons (Le.refl _) (LeL.nil)))) trivial rfl (dom0 rfl)
    · intro a0
      simp only [unicode_utf8_DecodeLastRuneInString.l0]
      refine RS.go ?_
      refine RT.br rfl (fun c12 => ?_) (fun c12 => ?_)
      · exact RT.none
      · refine RT.br rfl (fun c11 => ?_) (fun c11 => ?_)
        · refine RT.goto rfl ?_
          refine RS.weak [(0, .str a0), (4, .int .i64 (a0.size : Int)), (5, .int .i64 0)] [] ⟨Le.eq (by first | rfl | simp), Le.eq (by first | rfl | simp), Le.eq (by first | rfl | simp), trivial⟩ trivial rfl (dom0 rfl) ?_
          exact ih.1 a0 0 
        · refine RT.goto rfl ?_
          refine RS.weak [(0, .str a0), (4, .int .i64 (a0.size : Int)), (5, .int .i64 (wrap64 ((wrap64 ((a0.size : Int) - 1)) - 1)))] [] ⟨Le.eq (by first | rfl | simp), Le.eq (by first | rfl | simp), Le.eq (by first | rfl | simp), trivial⟩ trivial rfl (dom0 rfl) ?_
          exact ih.1 a0 (wrap64 ((wrap64 ((a0.size : Int) - 1)) - 1)) 
theorem unicode_utf8_DecodeLastRuneInString.ok (k : Nat) (a0 : ByteArray) (r : Int × Int) (h : unicode_utf8_DecodeLastRuneInString.f k a0 = some r) : Ct Tryz.prog B 105 [.str a0] (ofL []) (.tup [.int .i32 r.1, .int .i64 r.2]) (ofL []) := by
  refine Ct.of (Y := (fam Tryz.f105 [15] [] [] (fun r : Int × Int => .tup [.int .i32 r.1, .int .i64 r.2]) (fun r => []))) Tryz.func105 rfl Tryz.call105 rfl rfl ?_ r h
  unfold unicode_utf8_DecodeLastRuneInString.f
  refine RS.go ?_
  refine RT.br rfl (fun c14 => ?_) (fun c14 => ?_)
  · exact RT.done rfl rfl (Le.tup (LeL.cons (Le.refl _) (LeL.cons (Le.refl _) (LeL.nil)))) trivial rfl (dom0 rfl)
  · refine RT.br rfl (fun c1 => ?_) (fun c1 => RT.none)
    refine RT.br rfl (fun c2 => ?_) (fun c2 => RT.none)
    refine RT.br rfl (fun c13 => ?_) (fun c13 => ?_)
    · exact RT.done rfl rfl (Le.tup (LeL.cons (Le.refl _) (LeL.cons (Le.refl _) (LeL.nil)))) trivial rfl (dom0 rfl)
    · refine RT.goto rfl ?_
      refine RS.weak [(0, .str a0), (4, .int .i64 (a0.size : Int)), (5, .int .i64 (wrap64 ((wrap64 ((a0.size : Int) - 1)) - 1))), (6, .int .i64 (mx (wrap64 ((a0.size : Int) - 4)) 0))] [] ⟨Le.eq (by first | rfl | simp), Le.eq (by first | rfl | simp), Le.eq (by first | rfl | simp), Le.eq (by first | rfl | simp), trivial⟩ trivial rfl (dom0 rfl) ?_
      exact (unicode_utf8_DecodeLastRuneInString.loops k).2 a0 
/-! ### strings_LastIndexAny_s: function 135 -/
mutual
def strings_LastIndexAny_s.j7 : Nat → ByteArray → Int → Option (Int)
  | 0, _, _ => Option.none
  | k + 1, a1, x5j7 => ((strings_IndexRune.f a1 x5j7).bind fun r2 => (if r2 ≥ 0 then Option.some 0 else Option.some (-1)))
def strings_LastIndexAny_s.l1 : Nat → ByteArray → Int → Int → Option (Int)
  | 0, _, _, _ => Option.none
  | k + 1, a0, x9j23, x10b => (if x10b > 0 then (if 0 ≤ x10b then (if x10b ≤ (a0.size : Int) then ((unicode_utf8_DecodeLastRuneInString.f k (a0.extract 0 (x10b).toNat)).bind fun r9 => (if x9j23 = r9.1 then Option.some (wrap64 (x10b - r9.2)) else strings_LastIndexAny_s.l1 k a0 x9j23 (wrap64 (x10b - r9.2)))) else Option.none) else Option.none) else Option.some (-1))
def strings_LastIndexAny_s.j23 : Nat → ByteArray → Int → Option (Int)
  | 0, _, _ => Option.none
  | k + 1, a0, x9j23 => strings_LastIndexAny_s.l1 k a0 x9j23 (a0.size : Int)
def strings_LastIndexAny_s.l2 : Nat → ByteArray → ByteArray → Int → Option (Int)
  | 0, _, _, _ => Option.none
  | k + 1, a0, a1, x13c => (if x13c > 0 then (if 0 ≤ x13c then (if x13c ≤ (a0.size : Int) then ((unicode_utf8_DecodeLastRuneInString.f k (a0.extract 0 (x13c).toNat)).bind fun r15 => ((strings_IndexRune.f a1 r15.1).bind fun r16 => (if r16 ≥ 0 then Option.some (wrap64 (x13c - r15.2)) else strings_LastIndexAny_s.l2 k a0 a1 (wrap64 (x13c - r15.2))))) else Option.none) else Option.none) else Option.some (-1))
def strings_LastIndexAny_s.j19 : Nat → ByteArray → ByteArray → Option (Int)
  | 0, _, _ => Option.none
  | k + 1, a0, a1 => (if (a1.size : Int) = 1 then (if 0 < (a1.size : Int) then (if IntKind.i32.wrap (bt a1 0) ≥ 128 then strings_LastIndexAny_s.j23 k a0 65533 else strings_LastIndexAny_s.j23 k a0 (IntKind.i32.wrap (bt a1 0))) else Option.none) else strings_LastIndexAny_s.l2 k a0 a1 (a0.size : Int))
end
def strings_LastIndexAny_s.f (k : Nat) (a0 : ByteArray) (a1 : ByteArray) : Option (Int) := (if a1 = (⟨#[]⟩ : ByteArray) then Option.some (-1) else (if (a0.size : Int) = 1 then (if 0 < (a0.size : Int) then (if IntKind.i32.wrap (bt a0 0) ≥ 128 then strings_LastIndexAny_s.j7 k a1 65533 else strings_LastIndexAny_s.j7 k a1 (IntKind.i32.wrap (bt a0 0))) else Option.none) else ((strings_shouldUseASCIISet.f (a0.size : Int)).bind fun r5 => (if r5 = true then Option.none else strings_LastIndexAny_s.j19 k a0 a1))))
theorem strings_LastIndexAny_s.loops : ∀ k, (∀ (a1 : ByteArray) (x5j7 : Int), RS (fam Tryz.f135 [7, 19, 23] [] [] (fun r : Int => .int .i64 r) (fun r => [])) (Func.reg Tryz.f135 7) ⟨ofT [(1, .str a1), (5, .int .i32 x5j7)], ofL []⟩ (strings_LastIndexAny_s.j7 k a1 x5j7)) ∧ (∀ (a0 : ByteArray) (x9j23 : Int) (x10b : Int), RS (fam Tryz.f135 [7, 19, 23] [] [] (fun r : Int => .int .i64 r) (fun r => [])) (Func.head Tryz.f135 1) ⟨ofT [(0, .str a0), (9, .int .i32 x9j23), (10, .int .i64 x10b)], ofL []⟩ (strings_LastIndexAny_s.l1 k a0 x9j23 x10b)) ∧ (∀ (a0 : ByteArray) (x9j23 : Int), RS (fam Tryz.f135 [7, 19, 23] [] [] (fun r : Int => .int .i64 r) (fun r => [])) (Func.reg Tryz.f135 23) ⟨ofT [(0, .str a0), (9, .int .i32 x9j23)], ofL []⟩ (strings_LastIndexAny_s.j23 k a0 x9j23)) ∧ (∀ (a0 : ByteArray) (a1 : ByteArray) (x13c : Int), RS (fam Tryz.f135 [7, 19, 23] [] [] (fun r : Int => .int .i64 r) (fun r => [])) (Func.head Tryz.f135 2) ⟨ofT [(0, .str a0), (1, .str a1), (13, .int .i64 x13c)], ofL []⟩ (strings_LastIndexAny_s.l2 k a0 a1 x13c)) ∧ (∀ (a0 : ByteArray) (a1 : ByteArray), RS (fam Tryz.f135 [7, 19, 23] [] [] (fun r : Int => .int .i64 r) (fun r => [])) (Func.reg Tryz.f135 19) ⟨ofT [(0, .str a0), (1, .str a1)], ofL []⟩ (strings_LastIndexAny_s.j19 k a0 a1))
  | 0 => ⟨by intro _ _; simp only [strings_LastIndexAny_s.j7]; exact RS.none, by intro _ _ _; simp only [strings_LastIndexAny_s.l1]; exact RS.none, by intro _ _; simp only [strings_LastIndexAny_s.j23]; exact RS.none, by intro _ _ _; simp only [strings_LastIndexAny_s.l2]; exact RS.none, by intro _ _; simp only [strings_LastIndexAny_s.j19]; exact RS.none⟩
  | k + 1 => by
    have ih := strings_LastIndexAny_s.loops k
    refine ⟨?_, ?_, ?_, ?_, ?_⟩
    · intro a1 x5j7
      simp only [strings_LastIndexAny_s.j7]
      refine RS.region ?_
      refine RS.go ?_
      refine RT.call0 rfl (fun _ h => strings_IndexRune.ok a1 x5j7 _ h) (LeL.eq rfl) (fun _ => rfl) (fun r2 => ?_)
      refine RS.go ?_
      refine RT.br rfl (fun c3 => ?_) (fun c3 => ?_)
      · exact RT.done rfl rfl (Le.refl _) trivial rfl (dom0 rfl)
      · exact RT.done rfl rfl (Le.refl _) trivial rfl (dom0 rfl)
    · intro a0 x9j23 x10b
      simp only [strings_LastIndexAny_s.l1]
      refine RS.go ?_
      refine RT.br rfl (fun c11 => ?_) (fun c11 => ?_)
      · refine RT.br rfl (fun c7 => ?_) (fun c7 => RT.none)
        refine RT.br rfl (fun c8 => ?_) (fun c8 => RT.none)
        refine RT.call0 rfl (fun _ h => unicode_utf8_DecodeLastRuneInString.ok k (a0.extract 0 (x10b).toNat) _ h) (LeL.eq rfl) (fun _ => rfl) (fun r9 => ?_)
        refine RS.go ?_
        refine RT.br rfl (fun c10 => ?_) (fun c10 => ?_)
        · exact RT.done rfl rfl (Le.refl _) trivial rfl (dom0 rfl)
        · refine RT.goto rfl ?_
          refine RS.weak [(0, .str a0), (9, .int .i32 x9j23), (10, .int .i64 (wrap64 (x10b - r9.2)))] [] ⟨Le.eq (by first | rfl | simp), Le.eq (by first | rfl | simp), Le.eq (by first | rfl | simp), trivial⟩ trivial rfl (dom0 rfl) ?_
          exact ih.2.1 a0 x9j23 (wrap64 (x10b - r9.2)) 
      · exact RT.done rfl rfl (Le.refl _) trivial rfl (dom0 rfl)
    · intro a0 x9j23
      simp only [strings_LastIndexAny_s.j23]
      refine RS.region ?_
      refine RS.go ?_
      refine RT.goto rfl ?_
      refine RS.weak [(0, .str a0), (9, .int .i32 x9j23), (10, .int .i64 (a0.size : Int))] [] ⟨Le.eq (by first | rfl | simp), Le.eq (by first | rfl | simp), Le.eq (by first | rfl | simp), trivial⟩ trivial rfl (dom0 rfl) ?_
      exact ih.2.1 a0 x9j23 (a0.size : Int) 
    · intro a0 a1 x13c
      simp only [strings_LastIndexAny_s.l2]
      refine RS.go ?_
      refine RT.br rfl (fun c18 => ?_) (fun c18 => ?_)
      · refine RT.br rfl (fun c13 => ?_) (fun c13 => RT.none)
        refine RT.br rfl (fun c14 => ?_) (fun c14 => RT.none)
        refine RT.call0 rfl (fun _ h => unicode_utf8_DecodeLastRuneInString.ok k (a0.extract 0 (x13c).toNat) _ h) (LeL.eq rfl) (fun _ => rfl) (fun r15 => ?_)
        refine RS.go ?_
        refine RT.call0 rfl (fun _ h => strings_IndexRune.ok a1 r15.1 _ h) (LeL.eq rfl) (fun _ => rfl) (fun r16 => ?_)
        refine RS.go ?_
        refine RT.br rfl (fun c17 => ?_) (fun c17 => ?_)
        · exact RT.done rfl rfl (Le.refl _) trivial rfl (dom0 rfl)
        · refine RT.goto rfl ?_
          refine RS.weak [(0, .str a0), (1, .str a1), (13, .int .i64 (wrap64 (x13c - r15.2)))] [] ⟨Le.eq (by first | rfl | simp), Le.eq (by first | rfl | simp), Le.eq (by first | rfl | simp), trivial⟩ trivial rfl (dom0 rfl) ?_
          exact ih.2.2.2.1 a0 a1 (wrap64 (x13c - r15.2)) 
      · exact RT.done rfl rfl (Le.refl _) trivial rfl (dom0 rfl)
    · intro a0 a1
      simp only [strings_LastIndexAny_s.j19]
      refine RS.region ?_
      refine RS.go ?_
      refine RT.br rfl (fun c19 => ?_) (fun c19 => ?_)
      · refine RT.brT rfl ?_
        refine RT.br rfl (fun c6 => ?_) (fun c6 => RT.none)
        refine RT.br rfl (fun c12 => ?_) (fun c12 => ?_)
        · refine RT.goto rfl ?_
          refine RS.weak [(0, .str a0), (9, .int .i32 65533)] [] ⟨Le.eq (by first | rfl | simp), Le.eq (by first | rfl | simp), trivial⟩ trivial rfl (dom0 rfl) ?_
          exact ih.2.2.1 a0 65533 
        · refine RT.goto rfl ?_
          refine RS.weak [(0, .str a0), (9, .int .i32 (IntKind.i32.wrap (bt a1 0)))] [] ⟨Le.eq (by first | rfl | simp), Le.eq (by first | rfl | simp), trivial⟩ trivial rfl (dom0 rfl) ?_
          exact ih.2.2.1 a0 (IntKind.i32.wrap (bt a1 0)) 
      · refine RT.goto rfl ?_
        refine RS.weak [(0, .str a0), (1, .str a1), (13, .int .i64 (a0.size : Int))] [] ⟨Le.eq (by first | rfl | simp), Le.eq (by first | rfl | simp), Le.eq (by first | rfl | simp), trivial⟩ trivial rfl (dom0 rfl) ?_
        exact ih.2.2.2.1 a0 a1 (a0.size : Int) 
theorem strings_LastIndexAny_s.ok (k : Nat) (a0 : ByteArray) (a1 : ByteArray) (r : Int) (h : strings_LastIndexAny_s.f k a0 a1 = some r) : Ct Tryz.prog B 135 [.str a0, .str a1] (ofL []) (.int .i64 r) (ofL []) := by
  refine Ct.of (Y := (fam Tryz.f135 [7, 19, 23] [] [] (fun r : Int => .int .i64 r) (fun r => []))) Tryz.func135 rfl Tryz.call135 rfl rfl ?_ r h
  unfold strings_LastIndexAny_s.f
  refine RS.go ?_
  refine RT.br rfl (fun c22 => ?_) (fun c22 => ?_)
  · exact RT.done rfl rfl (Le.refl _) trivial rfl (dom0 rfl)
  · refine RT.br rfl (fun c21 => ?_) (fun c21 => ?_)
    · refine RT.brT rfl ?_
      refine RT.br rfl (fun c1 => ?_) (fun c1 => RT.none)
      refine RT.br rfl (fun c4 => ?_) (fun c4 => ?_)
      · refine RT.goto rfl ?_
        refine RS.weak [(1, .str a1), (5, .int .i32 65533)] [] ⟨Le.eq (by first | rfl | simp), Le.eq (by first | rfl | simp), trivial⟩ trivial rfl (dom0 rfl) ?_
        exact (strings_LastIndexAny_s.loops k).1 a1 65533 
      · refine RT.goto rfl ?_
        refine RS.weak [(1, .str a1), (5, .int .i32 (IntKind.i32.wrap (bt a0 0)))] [] ⟨Le.eq (by first | rfl | simp), Le.eq (by first | rfl | simp), trivial⟩ trivial rfl (dom0 rfl) ?_
        exact (strings_LastIndexAny_s.loops k).1 a1 (IntKind.i32.wrap (bt a0 0)) 
    · refine RT.call0 rfl (fun _ h => strings_shouldUseASCIISet.ok (a0.size : Int) _ h) (LeL.eq rfl) (fun _ => rfl) (fun r5 => ?_)
      refine RS.go ?_
      refine RT.brB rfl (fun c20 => ?_) (fun c20 => ?_)
      · exact RT.none
      · refine RT.goto rfl ?_
        refine RS.weak [(0, .str a0), (1, .str a1)] [] ⟨Le.eq (by first | rfl | simp), Le.eq (by first | rfl | simp), trivial⟩ trivial rfl (dom0 rfl) ?_
        exact (strings_LastIndexAny_s.loops k).2.2.2.2 a0 a1 
def sMake.f (a0 : ByteArray) : Option ByteArray := if a0.size < 4294967281 ∧ asciiT a0 = true then some a0 else none
theorem sMake.ok (a0 r : ByteArray) (h : sMake.f a0 = some r) : Ct Tryz.prog B 74 [.str a0] (ofL []) (.tup [.agg (setA r), .bool true]) (ofL []) := by
  unfold sMake.f at h
  split at h
  case isFalse => cases h
  case isTrue c =>
  cases h
  refine Ct.libR (u := .tuple #[.agg (Lib.setCells a0.data.toList), .bool true]) Tryz.call74 rfl (fun g sz w => ?_) fun g w hb => (Tryz.strings_makeASCIISet (zero_of_info (n := 256) (by kernel_rfl)).1 a0 w c.1 (asciiT_at c.2)).mono fun e w' ⟨he, hw⟩ => ⟨he, ?_⟩
  · refine .tup _ _ rfl fun i hi => ?_
    rcases (by simp at hi; omega : i = 0 ∨ i = 1) with rfl | rfl
    · refine .agg _ _ ?_ fun j hj => ?_
      · rw [Lib.setCells_size, setA_len]
      · rw [setA_len] at hj
        rw [Lib.setCells_eq]
        simp only [setA, List.getD, List.getElem?_map, List.getElem?_range hj, Option.map_some, Option.getD_some]
        have : (Array.map (fun j => Value.bool (a0.data.toList.contains (UInt8.ofNat j))) (Array.range 256)).getD j undef = .bool (a0.data.toList.contains (UInt8.ofNat j)) := by simp [Array.getD, hj]
        rw [this]
        exact R.bool _
    · exact R.bool _
  · rw [hw]
    exact (Below.refl _ _).alloc (Nat.le_refl _) _

/-- the set lent: is a byte in it? -/
def sHas.f (a0 : ByteArray) (a1 : Int) : Option Bool := if 0 ≤ a1 ∧ a1 < 256 then some (a0.data.toList.contains (UInt8.ofNat a1.toNat)) else none
theorem sHas.ok (a0 : ByteArray) (a1 : Int) (r : Bool) (h : sHas.f a0 a1 = some r) : Ct Tryz.prog B 102 [.ref 0 0 0 0 256, .int .u8 a1] (ofL [(0, .box (setA a0))]) (.bool r) (ofL [(0, .box (setA a0))]) := by
  unfold sHas.f at h
  split at h
  case isFalse => cases h
  case isTrue c =>
  cases h
  intro g w vs hs hr hO hB
  unfold Ent
  rw [show ∀ (vs : Array Value) (w : World), (callFunc 102 vs).run Tryz.prog w = .ok (.enter 102 vs) w from Tryz.call102]
  have h0 := hr 0 (by simp)
  have h1 := hr 1 (by simp)
  have hob := hO.ob 0 _ (show ofL [(0, .box (setA a0))] 0 = some (.box (setA a0)) from rfl)
  obtain ⟨b, κ, hβ, hcell⟩ := box_cell hob
  have hsz : szf (ofL [(0, .box (setA a0))]) 0 = 256 := setA_len a0
  obtain ⟨b', κ', hβ', hv⟩ := ref_inv h0 hsz.symm
  rw [hβ] at hβ'
  cases hβ'
  have hv1 := R.int_inv h1
  have e : vs = #[.pointer (some ⟨b, 0, none⟩), .int .u8 ((UInt8.ofNat a1.toNat).toNat : Int)] := by
    have ha : ((UInt8.ofNat a1.toNat).toNat : Int) = a1 := by rw [UInt8.toNat_ofNat']; omega
    rw [ha]
    apply Array.ext
    · simpa using hs
    · intro i hi hi2
      have hi3 : i < 2 := by simpa using hi2
      rcases (by omega : i = 0 ∨ i = 1) with rfl | rfl
      · have : vs.getD 0 undef = vs[0] := by simp [Array.getD, hi]
        rw [this] at hv
        simpa using hv
      · have : vs.getD 1 undef = vs[1] := by simp [Array.getD, hi]
        rw [this] at hv1
        simpa using hv1
  rw [e]
  refine (Tryz.asciiSet_contains b (UInt8.ofNat a1.toNat) _ w (hcell _)).mono fun e w' ⟨he, hw⟩ => ?_
  subst hw
  exact ⟨_, he, g, R.bool _, hO, Fr.refl _ _, Kp.refl _ _⟩
def sLast.l9 : Nat → ByteArray → ByteArray → Int → Option Int
  | 0, _, _, _ => Option.none
  | k + 1, a0, a1, x8 => (if x8 ≥ 0 then (if 0 ≤ x8 then (if x8 < (a0.size : Int) then ((sHas.f a1 (bt a0 x8)).bind fun r9 => (if r9 = true then Option.some x8 else sLast.l9 k a0 a1 (wrap64 (x8 - 1)))) else Option.none) else Option.none) else Option.some (-1))
theorem sLast.loops : ∀ k, (∀ (a0 : ByteArray) (a1 : ByteArray) (x8 : Int), RS (fam Tryz.f135 [1000007] [] [] (fun r : Int => .int .i64 r) (fun r => [])) (Func.head Tryz.f135 0) ⟨ofT [(0, .str a0), (6, .ref 6 0 0 0 256), (8, .int .i64 x8)], ofL [(6, .box (setA a1))]⟩ (sLast.l9 k a0 a1 x8))
  | 0 => by intro _ _ _; simp only [sLast.l9]; exact RS.none
  | k + 1 => by
    have ih := sLast.loops k
    intro a0 a1 x8
    simp only [sLast.l9]
    refine RS.go ?_
    refine RT.br rfl (fun c1 => ?_) (fun c1 => ?_)
    · refine RT.br rfl (fun c2 => ?_) (fun c2 => RT.none)
      refine RT.br rfl (fun c3 => ?_) (fun c3 => RT.none)
      refine RT.call rfl (fun _ h => sHas.ok a1 (bt a0 x8) _ h) (fun i => bif Nat.beq i 0 then 6 else i) (LeL.eq rfl) ⟨⟨_, rfl, LeO.refl _⟩, trivial⟩ (fun _ => rfl) (fun r9 => ?_)
      refine RS.go ?_
      refine RT.brB rfl (fun c4 => ?_) (fun c4 => ?_)
      · exact RT.done rfl rfl (Le.refl _) trivial rfl (dom0 rfl)
      · refine RT.goto rfl ?_
        refine RS.weak [(0, .str a0), (6, .ref 6 0 0 0 256), (8, .int .i64 (wrap64 (x8 - 1)))] [(6, .box (setA a1))] ⟨Le.eq (by first | rfl | simp), Le.eq (by first | rfl | simp), Le.eq (by first | rfl | simp), trivial⟩ ⟨⟨_, rfl, LeO.refl _⟩, trivial⟩ rfl (dom0 rfl) ?_
        exact ih a0 a1 (wrap64 (x8 - 1))
    · exact RT.done rfl rfl (Le.refl _) trivial rfl (dom0 rfl)
def sLast.f (k : Nat) (a0 : ByteArray) (a1 : ByteArray) : Option Int := (if a1 = (⟨#[]⟩ : ByteArray) then Option.none else (if (a0.size : Int) = 1 then Option.none else ((strings_shouldUseASCIISet.f (a0.size : Int)).bind fun r5 => (if r5 = true then ((sMake.f a1).bind fun r6 => sLast.l9 k a0 r6 (wrap64 ((a0.size : Int) - 1))) else Option.none))))
theorem sLast.ok (k : Nat) (a0 : ByteArray) (a1 : ByteArray) (r : Int) (h : sLast.f k a0 a1 = some r) : Ct Tryz.prog B 135 [.str a0, .str a1] (ofL []) (.int .i64 r) (ofL []) := by
  refine Ct.of (Y := (fam Tryz.f135 [1000007] [] [] (fun r : Int => .int .i64 r) (fun r => []))) Tryz.func135 rfl Tryz.call135 rfl rfl ?_ r h
  unfold sLast.f
  refine RS.go ?_
  refine RT.br rfl (fun c22 => ?_) (fun c22 => ?_)
  · exact RT.none
  · refine RT.br rfl (fun c21 => ?_) (fun c21 => ?_)
    · exact RT.none
    · refine RT.call0 rfl (fun _ h => strings_shouldUseASCIISet.ok (a0.size : Int) _ h) (LeL.eq rfl) (fun _ => rfl) (fun r5 => ?_)
      refine RS.go ?_
      refine RT.brB rfl (fun c20 => ?_) (fun c20 => ?_)
      · refine RT.call0 rfl (fun _ h => sMake.ok a1 _ h) (LeL.eq rfl) (fun _ => rfl) (fun r6 => ?_)
        refine RS.go ?_
        refine RT.goto rfl ?_
        refine RS.obj 6 (.box (setA r6)) ⟨_, rfl, LeO.putA rfl rfl⟩ ?_
        refine RS.go ?_
        refine RT.brT rfl ?_
        refine RT.goto rfl ?_
        refine RS.weak [(0, .str a0), (6, .ref 6 0 0 0 256), (8, .int .i64 (wrap64 ((a0.size : Int) - 1)))] [(6, .box (setA r6))] ⟨Le.eq (by first | rfl | simp), Le.eq (by first | rfl | simp), Le.eq (by first | rfl | simp), trivial⟩ ⟨⟨_, rfl, LeO.refl _⟩, trivial⟩ rfl (dom0 rfl) ?_
        exact sLast.loops k a0 r6 (wrap64 ((a0.size : Int) - 1))
      · exact RT.none
def strings_LastIndexAny.f (k : Nat) (a0 : ByteArray) (a1 : ByteArray) : Option Int := if 8 < a0.size then sLast.f k a0 a1 else strings_LastIndexAny_s.f k a0 a1
theorem strings_LastIndexAny.ok (k : Nat) (a0 : ByteArray) (a1 : ByteArray) (r : Int) (h : strings_LastIndexAny.f k a0 a1 = some r) : Ct Tryz.prog B 135 [.str a0, .str a1] (ofL []) (.int .i64 r) (ofL []) := by
  unfold strings_LastIndexAny.f at h
  split at h
  · exact sLast.ok k a0 a1 r h
  · exact strings_LastIndexAny_s.ok k a0 a1 r h

/-! ### call_split: function 116 -/
def call_split.f (k : Nat) (a0 : ByteArray) : Option (Int × Bool) := ((call_isPlain.f k a0).bind fun r1 => (if r1.2 = true then (if (a0.size : Int) > 10 then Option.some (0, false) else ((strings_LastIndexAny.f k a0 (⟨#[48, 49, 50, 51, 52, 53, 54, 55, 56, 57]⟩ : ByteArray)).bind fun r2 => (if r2 < 1 then Option.some (0, false) else (if r2 > 3 then Option.some (0, false) else (if wrap64 ((wrap64 ((a0.size : Int) - r2)) - 1) < 1 then Option.some (0, false) else (if wrap64 ((wrap64 ((a0.size : Int) - r2)) - 1) > 4 then Option.some (0, false) else (if 0 ≤ r2 then (if r2 ≤ (a0.size : Int) then ((call_isPlain.f k (a0.extract 0 (r2).toNat)).bind fun r5 => Option.some (r2, (decide (r5.1 > 0)))) else Option.none) else Option.none))))))) else Option.some (0, false)))
theorem call_split.ok (k : Nat) (a0 : ByteArray) (r : Int × Bool) (h : call_split.f k a0 = some r) : Ct Tryz.prog B 116 [.str a0] (ofL []) (.tup [.int .i64 r.1, .bool r.2]) (ofL []) := by
  refine Ct.of (Y := (fam Tryz.f116 [] [] [] (fun r : Int × Bool => .tup [.int .i64 r.1, .bool r.2]) (fun r => []))) Tryz.func116 rfl Tryz.call116 rfl rfl ?_ r h
  unfold call_split.f
  refine RS.go ?_
  refine RT.call0 rfl (fun _ h => call_isPlain.ok k a0 _ h) (LeL.eq rfl) (fun _ => rfl) (fun r1 => ?_)
  refine RS.go ?_
  refine RT.brBN rfl (fun c11 => ?_) (fun c11 => ?_)
  · refine RT.brF rfl ?_
    refine RT.brF rfl ?_
    refine RT.brF rfl ?_
    refine RT.br rfl (fun c10 => ?_) (fun c10 => ?_)
    · exact RT.done rfl rfl (Le.tup (LeL.cons (Le.refl _) (LeL.cons (Le.refl _) (LeL.nil)))) trivial rfl (dom0 rfl)
    · refine RT.call0 rfl (fun _ h => strings_LastIndexAny.ok k a0 (⟨#[48, 49, 50, 51, 52, 53, 54, 55, 56, 57]⟩ : ByteArray) _ h) (LeL.eq rfl) (fun _ => rfl) (fun r2 => ?_)
      refine RS.go ?_
      refine RT.br rfl (fun c9 => ?_) (fun c9 => ?_)
      · refine RT.brT rfl ?_
        refine RT.brT rfl ?_
        refine RT.brT rfl ?_
        refine RT.brT rfl ?_
        refine RT.brT rfl ?_
        refine RT.brT rfl ?_
        refine RT.brT rfl ?_
        refine RT.brT rfl ?_
        refine RT.brT rfl ?_
        refine RT.brT rfl ?_
        refine RT.brT rfl ?_
        refine RT.brT rfl ?_
        refine RT.brT rfl ?_
        refine RT.brT rfl ?_
        refine RT.brT rfl ?_
        refine RT.brT rfl ?_
        refine RT.brT rfl ?_
        exact RT.done rfl rfl (Le.tup (LeL.cons (Le.refl _) (LeL.cons (Le.refl _) (LeL.nil)))) trivial rfl (dom0 rfl)
      · refine RT.brF rfl ?_
        refine RT.brF rfl ?_
        refine RT.br rfl (fun c8 => ?_) (fun c8 => ?_)
        · refine RT.brT rfl ?_
          refine RT.brT rfl ?_
          refine RT.brT rfl ?_
          refine RT.brT rfl ?_
          refine RT.brT rfl ?_
          refine RT.brT rfl ?_
          refine RT.brT rfl ?_
          refine RT.brT rfl ?_
          refine RT.brT rfl ?_
          refine RT.brT rfl ?_
          refine RT.brT rfl ?_
          refine RT.brT rfl ?_
          refine RT.brT rfl ?_
          refine RT.brT rfl ?_
          exact RT.done rfl rfl (Le.tup (LeL.cons (Le.refl _) (LeL.cons (Le.refl _) (LeL.nil)))) trivial rfl (dom0 rfl)
        · refine RT.brF rfl ?_
          refine RT.brF rfl ?_
          refine RT.brF rfl ?_
          refine RT.brF rfl ?_
          refine RT.brF rfl ?_
          refine RT.brF rfl ?_
          refine RT.br rfl (fun c7 => ?_) (fun c7 => ?_)
          · refine RT.brT rfl ?_
            refine RT.brT rfl ?_
            refine RT.brT rfl ?_
            refine RT.brT rfl ?_
            refine RT.brT rfl ?_
            refine RT.brT rfl ?_
            refine RT.brT rfl ?_
            exact RT.done rfl rfl (Le.tup (LeL.cons (Le.refl _) (LeL.cons (Le.refl _) (LeL.nil)))) trivial rfl (dom0 rfl)
          · refine RT.brF rfl ?_
            refine RT.brF rfl ?_
            refine RT.brF rfl ?_
            refine RT.brF rfl ?_
            refine RT.brF rfl ?_
            refine RT.brF rfl ?_
            refine RT.br rfl (fun c6 => ?_) (fun c6 => ?_)
            · exact RT.done rfl rfl (Le.tup (LeL.cons (Le.refl _) (LeL.cons (Le.refl _) (LeL.nil)))) trivial rfl (dom0 rfl)
            · refine RT.br rfl (fun c3 => ?_) (fun c3 => RT.none)
              refine RT.br rfl (fun c4 => ?_) (fun c4 => RT.none)
              refine RT.call0 rfl (fun _ h => call_isPlain.ok k (a0.extract 0 (r2).toNat) _ h) (LeL.eq rfl) (fun _ => rfl) (fun r5 => ?_)
              refine RS.go ?_
              exact RT.done rfl rfl (Le.tup (LeL.cons (Le.refl _) (LeL.cons (Le.refl _) (LeL.nil)))) trivial rfl (dom0 rfl)
  · refine RT.brT rfl ?_
    refine RT.brT rfl ?_
    refine RT.brT rfl ?_
    refine RT.brT rfl ?_
    exact RT.done rfl rfl (Le.tup (LeL.cons (Le.refl _) (LeL.cons (Le.refl _) (LeL.nil)))) trivial rfl (dom0 rfl)
/-! ### call_based: function 81 -/
def call_based.k0 : List DK := [⟨[], [], [3], []⟩, ⟨[2, 23], [2], [], [2]⟩, ⟨[14, 18, 22], [], [23], []⟩, ⟨[19, 21], [], [22], []⟩, ⟨[20], [], [21], []⟩, ⟨[4], [], [20], []⟩, ⟨[0], [], [19], []⟩, ⟨[15, 17], [], [18], []⟩, ⟨[16], [], [17], []⟩, ⟨[4], [], [16], []⟩, ⟨[0], [], [15], []⟩, ⟨[0], [], [14], []⟩]
def call_based.k1 : List Nat := [0, 0, 0, 4, 14, 0, 0, 64, 224, 511, 1023, 2047]
def call_based.f (k : Nat) (a0 : ByteArray) : Option (ByteArray × ByteArray × ByteArray × Int × ByteArray × Bool) := ((call_split.f k a0).bind fun r1 => (if r1.2 = true then (if 0 ≤ wrap64 (r1.1 + 1) then (if wrap64 (r1.1 + 1) ≤ (a0.size : Int) then (if 0 ≤ wrap64 (r1.1 + 1) then (if wrap64 (r1.1 + 1) ≤ (a0.size : Int) then Option.some (a0, a0.extract 0 (wrap64 (r1.1 + 1)).toNat, a0.extract (wrap64 (r1.1 + 1)).toNat ((a0.size : Int)).toNat, 0, (⟨#[]⟩ : ByteArray), true) else Option.none) else Option.none) else Option.none) else Option.none) else Option.some ((⟨#[]⟩ : ByteArray), (⟨#[]⟩ : ByteArray), (⟨#[]⟩ : ByteArray), 0, (⟨#[]⟩ : ByteArray), false)))
theorem call_based.ok (k : Nat) (a0 : ByteArray) (r : ByteArray × ByteArray × ByteArray × Int × ByteArray × Bool) (h : call_based.f k a0 = some r) : Ct Tryz.prog B 81 [.str a0] (ofL []) (.tup [.agg [.str r.1, .str r.2.1, .str r.2.2.1, .int .i64 r.2.2.2.1, .str r.2.2.2.2.1], .bool r.2.2.2.2.2]) (ofL []) := by
  refine Ct.of (Y := (fam Tryz.f81 [] [] [] (fun r : ByteArray × ByteArray × ByteArray × Int × ByteArray × Bool => .tup [.agg [.str r.1, .str r.2.1, .str r.2.2.1, .int .i64 r.2.2.2.1, .str r.2.2.2.2.1], .bool r.2.2.2.2.2]) (fun r => []))) Tryz.func81 rfl Tryz.call81 rfl rfl ?_ r h
  unfold call_based.f
  refine RS.go ?_
  refine RT.call0 rfl (fun _ h => call_split.ok k a0 _ h) (LeL.eq rfl) (fun _ => rfl) (fun r1 => ?_)
  refine RS.go ?_
  refine RT.brBN rfl (fun c6 => ?_) (fun c6 => ?_)
  · refine RT.goto rfl ?_
    refine RS.draw rfl ?_
    refine RD.br rfl (fun c2 => ?_) (fun c2 => RD.none)
    refine RD.br rfl (fun c3 => ?_) (fun c3 => RD.none)
    refine RD.br rfl (fun c4 => ?_) (fun c4 => RD.none)
    refine RD.br rfl (fun c5 => ?_) (fun c5 => RD.none)
    refine RD.fin call_based.k0 call_based.k1 rfl rfl (by decide +kernel) ?_
    refine RS.go ?_
    exact RT.done rfl rfl (Le.tup (LeL.cons (Le.refl _) (LeL.cons (Le.refl _) (LeL.nil)))) trivial rfl (dom0 rfl)
  · exact RT.done rfl rfl (Le.tup (LeL.cons (Le.refl _) (LeL.cons (Le.refl _) (LeL.nil)))) trivial rfl (dom0 rfl)
def strings_Cut.f (a0 : ByteArray) (a1 : ByteArray) : Option (ByteArray × ByteArray × Bool) := if a0.size < 4294967281 then some ((⟨(Lib.cut a0.data.toList a1.data.toList).1.toArray⟩, ⟨(Lib.cut a0.data.toList a1.data.toList).2.1.toArray⟩, (Lib.cut a0.data.toList a1.data.toList).2.2) : ByteArray × ByteArray × Bool) else none
theorem strings_Cut.ok (a0 : ByteArray) (a1 : ByteArray) (r : ByteArray × ByteArray × Bool) (h : strings_Cut.f a0 a1 = some r) : Ct Tryz.prog B 82 [.str a0, .str a1] (ofL []) (.tup [.str r.1, .str r.2.1, .bool r.2.2]) (ofL []) := by
  unfold strings_Cut.f at h
  split at h
  case isFalse => cases h
  case isTrue c =>
  cases h
  refine Ct.lib Tryz.call82 rfl rfl fun g w hb => (((hbML hb).elim fun m hm => Tryz.strings_Cut a0 a1 m w c hm)).mono fun e w' ⟨he, hw⟩ => ⟨he, (by obtain ⟨n, rfl⟩ := hw; exact ⟨rfl, rfl, rfl, Nat.le_refl _, fun _ _ => rfl⟩)⟩

/-! ### call_isBegin: function 83 -/
def call_isBegin.f (k : Nat) (a0 : ByteArray) : Option (Bool) := ((call_isPlain.f k a0).bind fun r1 => (if r1.2 = true then (if r1.1 > 0 then Option.some (decide ((a0.size : Int) ≤ 4)) else Option.some false) else Option.some false))
theorem call_isBegin.ok (k : Nat) (a0 : ByteArray) (r : Bool) (h : call_isBegin.f k a0 = some r) : Ct Tryz.prog B 83 [.str a0] (ofL []) (.bool r) (ofL []) := by
  refine Ct.of (Y := (fam Tryz.f83 [] [] [] (fun r : Bool => .bool r) (fun r => []))) Tryz.func83 rfl Tryz.call83 rfl rfl ?_ r h
  unfold call_isBegin.f
  refine RS.go ?_
  refine RT.call0 rfl (fun _ h => call_isPlain.ok k a0 _ h) (LeL.eq rfl) (fun _ => rfl) (fun r1 => ?_)
  refine RS.go ?_
  refine RT.brB rfl (fun c3 => ?_) (fun c3 => ?_)
  · refine RT.brT rfl ?_
    refine RT.brT rfl ?_
    refine RT.br rfl (fun c2 => ?_) (fun c2 => ?_)
    · refine RT.brT rfl ?_
      refine RT.brT rfl ?_
      refine RT.brT rfl ?_
      exact RT.done rfl rfl (Le.refl _) trivial rfl (dom0 rfl)
    · refine RT.brF rfl ?_
      refine RT.brF rfl ?_
      refine RT.brF rfl ?_
      exact RT.done rfl rfl (Le.refl _) trivial rfl (dom0 rfl)
  · refine RT.brF rfl ?_
    refine RT.brF rfl ?_
    refine RT.brF rfl ?_
    refine RT.brF rfl ?_
    refine RT.brF rfl ?_
    refine RT.brF rfl ?_
    exact RT.done rfl rfl (Le.refl _) trivial rfl (dom0 rfl)
/-! ### call_tail: function 84 -/
def call_tail.f (k : Nat) (a0 : ByteArray) : Option (Int × ByteArray × Bool) := (if a0 = (⟨#[112]⟩ : ByteArray) then Option.some (3, (⟨#[]⟩ : ByteArray), true) else (if a0 = (⟨#[109]⟩ : ByteArray) then Option.some (4, (⟨#[]⟩ : ByteArray), true) else (if a0 = (⟨#[109, 109]⟩ : ByteArray) then Option.some (5, (⟨#[]⟩ : ByteArray), true) else (if a0 = (⟨#[97, 109]⟩ : ByteArray) then Option.some (6, (⟨#[]⟩ : ByteArray), true) else (if (a0.size : Int) = 1 then (if 0 < (a0.size : Int) then ((call_isDigit.f (bt a0 0)).bind fun r2 => (if r2 = true then Option.some (2, a0, true) else ((call_isBegin.f k a0).bind fun r3 => Option.some (1, a0, r3)))) else Option.none) else ((call_isBegin.f k a0).bind fun r5 => Option.some (1, a0, r5)))))))
theorem call_tail.ok (k : Nat) (a0 : ByteArray) (r : Int × ByteArray × Bool) (h : call_tail.f k a0 = some r) : Ct Tryz.prog B 84 [.str a0] (ofL []) (.tup [.int .i64 r.1, .str r.2.1, .bool r.2.2]) (ofL []) := by
  refine Ct.of (Y := (fam Tryz.f84 [] [] [] (fun r : Int × ByteArray × Bool => .tup [.int .i64 r.1, .str r.2.1, .bool r.2.2]) (fun r => []))) Tryz.func84 rfl Tryz.call84 rfl rfl ?_ r h
  unfold call_tail.f
  refine RS.go ?_
  refine RT.br rfl (fun c10 => ?_) (fun c10 => ?_)
  · exact RT.done rfl rfl (Le.tup (LeL.cons (Le.refl _) (LeL.cons (Le.refl _) (LeL.cons (Le.refl _) (LeL.nil))))) trivial rfl (dom0 rfl)
  · refine RT.br rfl (fun c9 => ?_) (fun c9 => ?_)
    · exact RT.done rfl rfl (Le.tup (LeL.cons (Le.refl _) (LeL.cons (Le.refl _) (LeL.cons (Le.refl _) (LeL.nil))))) trivial rfl (dom0 rfl)
    · refine RT.br rfl (fun c8 => ?_) (fun c8 => ?_)
      · exact RT.done rfl rfl (Le.tup (LeL.cons (Le.refl _) (LeL.cons (Le.refl _) (LeL.cons (Le.refl _) (LeL.nil))))) trivial rfl (dom0 rfl)
      · refine RT.br rfl (fun c7 => ?_) (fun c7 => ?_)
        · exact RT.done rfl rfl (Le.tup (LeL.cons (Le.refl _) (LeL.cons (Le.refl _) (LeL.cons (Le.refl _) (LeL.nil))))) trivial rfl (dom0 rfl)
        · refine RT.br rfl (fun c6 => ?_) (fun c6 => ?_)
          · refine RT.brT rfl ?_
            refine RT.brT rfl ?_
            refine RT.br rfl (fun c1 => ?_) (fun c1 => RT.none)
            refine RT.brT rfl ?_
            refine RT.call0 rfl (fun _ h => call_isDigit.ok (bt a0 0) _ h) (LeL.eq rfl) (fun _ => rfl) (fun r2 => ?_)
            refine RS.go ?_
            refine RT.brT rfl ?_
            refine RT.brB rfl (fun c4 => ?_) (fun c4 => ?_)
            · exact RT.done rfl rfl (Le.tup (LeL.cons (Le.refl _) (LeL.cons (Le.refl _) (LeL.cons (Le.refl _) (LeL.nil))))) trivial rfl (dom0 rfl)
            · refine RT.call0 rfl (fun _ h => call_isBegin.ok k a0 _ h) (LeL.eq rfl) (fun _ => rfl) (fun r3 => ?_)
              refine RS.go ?_
              exact RT.done rfl rfl (Le.tup (LeL.cons (Le.refl _) (LeL.cons (Le.refl _) (LeL.cons (Le.refl _) (LeL.nil))))) trivial rfl (dom0 rfl)
          · refine RT.brF rfl ?_
            refine RT.brF rfl ?_
            refine RT.brF rfl ?_
            refine RT.brF rfl ?_
            refine RT.call0 rfl (fun _ h => call_isBegin.ok k a0 _ h) (LeL.eq rfl) (fun _ => rfl) (fun r5 => ?_)
            refine RS.go ?_
            exact RT.done rfl rfl (Le.tup (LeL.cons (Le.refl _) (LeL.cons (Le.refl _) (LeL.cons (Le.refl _) (LeL.nil))))) trivial rfl (dom0 rfl)
/-! ### call_Parts: function 56 -/
def call_Parts.f (k : Nat) (a0 : ByteArray) : Option (ByteArray × ByteArray × ByteArray × Int × ByteArray × Bool) := (if (a0.size : Int) > 14 then Option.some ((⟨#[]⟩ : ByteArray), (⟨#[]⟩ : ByteArray), (⟨#[]⟩ : ByteArray), 0, (⟨#[]⟩ : ByteArray), false) else ((call_based.f k a0).bind fun r1 => (if r1.2.2.2.2.2 = true then Option.some (r1.1, r1.2.1, r1.2.2.1, r1.2.2.2.1, r1.2.2.2.2.1, true) else ((strings_Cut.f a0 (⟨#[47]⟩ : ByteArray)).bind fun r2 => (if r2.2.2 = true then ((call_based.f k r2.2.1).bind fun r3 => (if r3.2.2.2.2.2 = true then ((call_isBegin.f k r2.1).bind fun r4 => (if r4 = true then Option.some (r3.1, r3.2.1, r3.2.2.1, 1, r2.1, true) else ((call_based.f k r2.1).bind fun r5 => ((call_tail.f k r2.2.1).bind fun r6 => (if r5.2.2.2.2.2 = true then (if r6.2.2 = true then Option.some (r5.1, r5.2.1, r5.2.2.1, r6.1, r6.2.1, true) else Option.some ((⟨#[]⟩ : ByteArray), (⟨#[]⟩ : ByteArray), (⟨#[]⟩ : ByteArray), 0, (⟨#[]⟩ : ByteArray), false)) else Option.some ((⟨#[]⟩ : ByteArray), (⟨#[]⟩ : ByteArray), (⟨#[]⟩ : ByteArray), 0, (⟨#[]⟩ : ByteArray), false)))))) else ((call_based.f k r2.1).bind fun r10 => ((call_tail.f k r2.2.1).bind fun r11 => (if r10.2.2.2.2.2 = true then (if r11.2.2 = true then Option.some (r10.1, r10.2.1, r10.2.2.1, r11.1, r11.2.1, true) else Option.some ((⟨#[]⟩ : ByteArray), (⟨#[]⟩ : ByteArray), (⟨#[]⟩ : ByteArray), 0, (⟨#[]⟩ : ByteArray), false)) else Option.some ((⟨#[]⟩ : ByteArray), (⟨#[]⟩ : ByteArray), (⟨#[]⟩ : ByteArray), 0, (⟨#[]⟩ : ByteArray), false)))))) else Option.some ((⟨#[]⟩ : ByteArray), (⟨#[]⟩ : ByteArray), (⟨#[]⟩ : ByteArray), 0, (⟨#[]⟩ : ByteArray), false))))))
theorem call_Parts.ok (k : Nat) (a0 : ByteArray) (r : ByteArray × ByteArray × ByteArray × Int × ByteArray × Bool) (h : call_Parts.f k a0 = some r) : Ct Tryz.prog B 56 [.str a0] (ofL []) (.tup [.agg [.str r.1, .str r.2.1, .str r.2.2.1, .int .i64 r.2.2.2.1, .str r.2.2.2.2.1], .bool r.2.2.2.2.2]) (ofL []) := by
  refine Ct.of (Y := (fam Tryz.f56 [] [] [] (fun r : ByteArray × ByteArray × ByteArray × Int × ByteArray × Bool => .tup [.agg [.str r.1, .str r.2.1, .str r.2.2.1, .int .i64 r.2.2.2.1, .str r.2.2.2.2.1], .bool r.2.2.2.2.2]) (fun r => []))) Tryz.func56 rfl Tryz.call56 rfl rfl ?_ r h
  unfold call_Parts.f
  refine RS.go ?_
  refine RT.br rfl (fun c17 => ?_) (fun c17 => ?_)
  · exact RT.done rfl rfl (Le.tup (LeL.cons (Le.refl _) (LeL.cons (Le.refl _) (LeL.nil)))) trivial rfl (dom0 rfl)
  · refine RT.call0 rfl (fun _ h => call_based.ok k a0 _ h) (LeL.eq rfl) (fun _ => rfl) (fun r1 => ?_)
    refine RS.go ?_
    refine RT.brB rfl (fun c16 => ?_) (fun c16 => ?_)
    · exact RT.done rfl rfl (Le.tup (LeL.cons (Le.refl _) (LeL.cons (Le.refl _) (LeL.nil)))) trivial rfl (dom0 rfl)
    · refine RT.call0 rfl (fun _ h => strings_Cut.ok a0 (⟨#[47]⟩ : ByteArray) _ h) (LeL.eq rfl) (fun _ => rfl) (fun r2 => ?_)
      refine RS.go ?_
      refine RT.brBN rfl (fun c15 => ?_) (fun c15 => ?_)
      · refine RT.call0 rfl (fun _ h => call_based.ok k r2.2.1 _ h) (LeL.eq rfl) (fun _ => rfl) (fun r3 => ?_)
        refine RS.go ?_
        refine RT.brB rfl (fun c14 => ?_) (fun c14 => ?_)
        · refine RT.brT rfl ?_
          refine RT.call0 rfl (fun _ h => call_isBegin.ok k r2.1 _ h) (LeL.eq rfl) (fun _ => rfl) (fun r4 => ?_)
          refine RS.go ?_
          refine RT.brT rfl ?_
          refine RT.brB rfl (fun c9 => ?_) (fun c9 => ?_)
          · exact RT.done rfl rfl (Le.tup (LeL.cons (Le.refl _) (LeL.cons (Le.refl _) (LeL.nil)))) trivial rfl (dom0 rfl)
          · refine RT.call0 rfl (fun _ h => call_based.ok k r2.1 _ h) (LeL.eq rfl) (fun _ => rfl) (fun r5 => ?_)
            refine RS.go ?_
            refine RT.call0 rfl (fun _ h => call_tail.ok k r2.2.1 _ h) (LeL.eq rfl) (fun _ => rfl) (fun r6 => ?_)
            refine RS.go ?_
            refine RT.brBN rfl (fun c8 => ?_) (fun c8 => ?_)
            · refine RT.brF rfl ?_
              refine RT.brF rfl ?_
              refine RT.brBN rfl (fun c7 => ?_) (fun c7 => ?_)
              · exact RT.done rfl rfl (Le.tup (LeL.cons (Le.refl _) (LeL.cons (Le.refl _) (LeL.nil)))) trivial rfl (dom0 rfl)
              · exact RT.done rfl rfl (Le.tup (LeL.cons (Le.refl _) (LeL.cons (Le.refl _) (LeL.nil)))) trivial rfl (dom0 rfl)
            · refine RT.brT rfl ?_
              refine RT.brT rfl ?_
              refine RT.brT rfl ?_
              exact RT.done rfl rfl (Le.tup (LeL.cons (Le.refl _) (LeL.cons (Le.refl _) (LeL.nil)))) trivial rfl (dom0 rfl)
        · refine RT.brF rfl ?_
          refine RT.brF rfl ?_
          refine RT.brF rfl ?_
          refine RT.call0 rfl (fun _ h => call_based.ok k r2.1 _ h) (LeL.eq rfl) (fun _ => rfl) (fun r10 => ?_)
          refine RS.go ?_
          refine RT.call0 rfl (fun _ h => call_tail.ok k r2.2.1 _ h) (LeL.eq rfl) (fun _ => rfl) (fun r11 => ?_)
          refine RS.go ?_
          refine RT.brBN rfl (fun c13 => ?_) (fun c13 => ?_)
          · refine RT.brF rfl ?_
            refine RT.brF rfl ?_
            refine RT.brBN rfl (fun c12 => ?_) (fun c12 => ?_)
            · exact RT.done rfl rfl (Le.tup (LeL.cons (Le.refl _) (LeL.cons (Le.refl _) (LeL.nil)))) trivial rfl (dom0 rfl)
            · exact RT.done rfl rfl (Le.tup (LeL.cons (Le.refl _) (LeL.cons (Le.refl _) (LeL.nil)))) trivial rfl (dom0 rfl)
          · refine RT.brT rfl ?_
            refine RT.brT rfl ?_
            refine RT.brT rfl ?_
            exact RT.done rfl rfl (Le.tup (LeL.cons (Le.refl _) (LeL.cons (Le.refl _) (LeL.nil)))) trivial rfl (dom0 rfl)
      · exact RT.done rfl rfl (Le.tup (LeL.cons (Le.refl _) (LeL.cons (Le.refl _) (LeL.nil)))) trivial rfl (dom0 rfl)
/-! ### call_Apart: function 27 -/
def call_Apart.f (k : Nat) (a0 : ByteArray) : Option (ByteArray × ByteArray × ByteArray × Int × ByteArray × Int) := ((call_Parts.f k a0).bind fun r1 => (if r1.2.2.2.2.2 = true then Option.some (r1.1, r1.2.1, r1.2.2.1, r1.2.2.2.1, r1.2.2.2.2.1, 0) else Option.some ((⟨#[]⟩ : ByteArray), (⟨#[]⟩ : ByteArray), (⟨#[]⟩ : ByteArray), 0, (⟨#[]⟩ : ByteArray), 3)))
theorem call_Apart.ok (k : Nat) (a0 : ByteArray) (r : ByteArray × ByteArray × ByteArray × Int × ByteArray × Int) (h : call_Apart.f k a0 = some r) : Ct Tryz.prog B 27 [.str a0] (ofL []) (.tup [.agg [.str r.1, .str r.2.1, .str r.2.2.1, .int .i64 r.2.2.2.1, .str r.2.2.2.2.1], .int .i64 r.2.2.2.2.2]) (ofL []) := by
  refine Ct.of (Y := (fam Tryz.f27 [] [] [] (fun r : ByteArray × ByteArray × ByteArray × Int × ByteArray × Int => .tup [.agg [.str r.1, .str r.2.1, .str r.2.2.1, .int .i64 r.2.2.2.1, .str r.2.2.2.2.1], .int .i64 r.2.2.2.2.2]) (fun r => []))) Tryz.func27 rfl Tryz.call27 rfl rfl ?_ r h
  unfold call_Apart.f
  refine RS.go ?_
  refine RT.call0 rfl (fun _ h => call_Parts.ok k a0 _ h) (LeL.eq rfl) (fun _ => rfl) (fun r1 => ?_)
  refine RS.go ?_
  refine RT.brBN rfl (fun c2 => ?_) (fun c2 => ?_)
  · exact RT.done rfl rfl (Le.tup (LeL.cons (Le.refl _) (LeL.cons (Le.refl _) (LeL.nil)))) trivial rfl (dom0 rfl)
  · exact RT.done rfl rfl (Le.tup (LeL.cons (Le.refl _) (LeL.cons (Le.refl _) (LeL.nil)))) trivial rfl (dom0 rfl)
/-! ### kit_Outside: function 57 -/
def kit_Outside.f (a0 : Int) (a1 : Int) (a2 : Int) : Option (Bool) := (if a0 < a1 then Option.some true else Option.some (decide (a0 > a2)))
theorem kit_Outside.ok (a0 : Int) (a1 : Int) (a2 : Int) (r : Bool) (h : kit_Outside.f a0 a1 a2 = some r) : Ct Tryz.prog B 57 [.int .i64 a0, .int .i64 a1, .int .i64 a2] (ofL []) (.bool r) (ofL []) := by
  refine Ct.of (Y := (fam Tryz.f57 [] [] [] (fun r : Bool => .bool r) (fun r => []))) Tryz.func57 rfl Tryz.call57 rfl rfl ?_ r h
  unfold kit_Outside.f
  refine RS.go ?_
  refine RT.br rfl (fun c1 => ?_) (fun c1 => ?_)
  · refine RT.brT rfl ?_
    refine RT.brT rfl ?_
    refine RT.brT rfl ?_
    exact RT.done rfl rfl (Le.refl _) trivial rfl (dom0 rfl)
  · refine RT.brF rfl ?_
    refine RT.brF rfl ?_
    refine RT.brF rfl ?_
    exact RT.done rfl rfl (Le.refl _) trivial rfl (dom0 rfl)
/-! ### place_cosine: function 58 -/
mutual
def place_cosine.j4 : Nat → Int → Option (Int)
  | 0, _ => Option.none
  | k + 1, x3j4 => (if x3j4 > 324000 then ((place_cosine.f k (wrap64 (648000 - x3j4))).bind fun r1 => Option.some (wrap64 (0 - r1))) else (if wrap64 (419904000000 + (wrap64 (x3j4 * x3j4))) = 0 then Option.none else Option.some (wrap64 (Int.tdiv (wrap64 ((wrap64 (419904000000 - (wrap64 ((wrap64 (4 * x3j4)) * x3j4)))) * 1000000)) (wrap64 (419904000000 + (wrap64 (x3j4 * x3j4))))))))
def place_cosine.f : Nat → Int → Option (Int)
  | 0, _ => Option.none
  | k + 1, a0 => (if Int.tmod (wrap64 ((Int.tmod a0 1296000) + 1296000)) 1296000 > 648000 then place_cosine.j4 k (wrap64 (1296000 - (Int.tmod (wrap64 ((Int.tmod a0 1296000) + 1296000)) 1296000))) else place_cosine.j4 k (Int.tmod (wrap64 ((Int.tmod a0 1296000) + 1296000)) 1296000))
end
theorem place_cosine.loops : ∀ k, (∀ (x3j4 : Int), RS (fam Tryz.f58 [4] [] [] (fun r : Int => .int .i64 r) (fun r => [])) (Func.reg Tryz.f58 4) ⟨ofT [(3, .int .i64 x3j4)], ofL []⟩ (place_cosine.j4 k x3j4)) ∧ ∀ (a0 : Int) (r : Int) (h : place_cosine.f k a0 = some r), Ct Tryz.prog B 58 [.int .i64 a0] (ofL []) (.int .i64 r) (ofL [])
  | 0 => ⟨by intro _; simp only [place_cosine.j4]; exact RS.none, by intro _ r h; simp only [place_cosine.f] at h; cases h⟩
  | k + 1 => by
    have ih := place_cosine.loops k
    refine ⟨?_, ?_⟩
    · intro x3j4
      simp only [place_cosine.j4]
      refine RS.region ?_
      refine RS.go ?_
      refine RT.br rfl (fun c3 => ?_) (fun c3 => ?_)
      · refine RT.call0 rfl (fun _ h => ih.2 (wrap64 (648000 - x3j4)) _ h) (LeL.eq rfl) (fun _ => rfl) (fun r1 => ?_)
        refine RS.go ?_
        exact RT.done rfl rfl (Le.refl _) trivial rfl (dom0 rfl)
      · refine RT.br rfl (fun _ => RT.none) (fun c2 => ?_)
        exact RT.done rfl rfl (Le.refl _) trivial rfl (dom0 rfl)
    · intro a0 r h
      refine Ct.of (Y := (fam Tryz.f58 [4] [] [] (fun r : Int => .int .i64 r) (fun r => []))) Tryz.func58 rfl Tryz.call58 rfl rfl ?_ r h
      simp only [place_cosine.f]
      refine RS.go ?_
      refine RT.brF rfl ?_
      refine RT.brF rfl ?_
      refine RT.br rfl (fun c4 => ?_) (fun c4 => ?_)
      · refine RT.goto rfl ?_
        refine RS.weak [(3, .int .i64 (wrap64 (1296000 - (Int.tmod (wrap64 ((Int.tmod a0 1296000) + 1296000)) 1296000))))] [] ⟨Le.eq (by first | rfl | simp), trivial⟩ trivial rfl (dom0 rfl) ?_
        exact ih.1 (wrap64 (1296000 - (Int.tmod (wrap64 ((Int.tmod a0 1296000) + 1296000)) 1296000))) 
      · refine RT.goto rfl ?_
        refine RS.weak [(3, .int .i64 (Int.tmod (wrap64 ((Int.tmod a0 1296000) + 1296000)) 1296000))] [] ⟨Le.eq (by first | rfl | simp), trivial⟩ trivial rfl (dom0 rfl) ?_
        exact ih.1 (Int.tmod (wrap64 ((Int.tmod a0 1296000) + 1296000)) 1296000) 
theorem place_cosine.ok (k : Nat) (a0 : Int) (r : Int) (h : place_cosine.f k a0 = some r) : Ct Tryz.prog B 58 [.int .i64 a0] (ofL []) (.int .i64 r) (ofL []) := by
  exact (place_cosine.loops k).2 a0 r h
/-! ### place_Cosine: function 28 -/
def place_Cosine.f (k : Nat) (a0 : Int) : Option (Int × Int) := ((kit_Outside.f a0 (-1296000000) 1296000000).bind fun r1 => (if r1 = true then Option.some (0, 1) else ((place_cosine.f k a0).bind fun r2 => Option.some (r2, 0))))
theorem place_Cosine.ok (k : Nat) (a0 : Int) (r : Int × Int) (h : place_Cosine.f k a0 = some r) : Ct Tryz.prog B 28 [.int .i64 a0] (ofL []) (.tup [.int .i64 r.1, .int .i64 r.2]) (ofL []) := by
  refine Ct.of (Y := (fam Tryz.f28 [] [] [] (fun r : Int × Int => .tup [.int .i64 r.1, .int .i64 r.2]) (fun r => []))) Tryz.func28 rfl Tryz.call28 rfl rfl ?_ r h
  unfold place_Cosine.f
  refine RS.go ?_
  refine RT.call0 rfl (fun _ h => kit_Outside.ok a0 (-1296000000) 1296000000 _ h) (LeL.eq rfl) (fun _ => rfl) (fun r1 => ?_)
  refine RS.go ?_
  refine RT.brB rfl (fun c3 => ?_) (fun c3 => ?_)
  · exact RT.done rfl rfl (Le.tup (LeL.cons (Le.refl _) (LeL.cons (Le.refl _) (LeL.nil)))) trivial rfl (dom0 rfl)
  · refine RT.call0 rfl (fun _ h => place_cosine.ok k a0 _ h) (LeL.eq rfl) (fun _ => rfl) (fun r2 => ?_)
    refine RS.go ?_
    exact RT.done rfl rfl (Le.tup (LeL.cons (Le.refl _) (LeL.cons (Le.refl _) (LeL.nil)))) trivial rfl (dom0 rfl)
def strings_Split.f (a0 : ByteArray) (a1 : ByteArray) : Option (List ByteArray) := if a0.size < 4294967281 ∧ 1 ≤ a1.size then some (Lib.splitB a1 0 (Lib.countB a0 a1) a0) else none
theorem strings_Split.ok (a0 : ByteArray) (a1 : ByteArray) (r : List ByteArray) (h : strings_Split.f a0 a1 = some r) : Ct Tryz.prog B 120 [.str a0, .str a1] (ofL []) (sq eS r) (ofL []) := by
  unfold strings_Split.f at h
  split at h
  case isFalse => cases h
  case isTrue c =>
  cases h
  refine Ct.libS Tryz.call120 rfl fun g w hb => ?_
  obtain ⟨m, hm⟩ := hbML hb
  refine (Tryz.strings_Split a0 a1 m w c.1 hm c.2).mono fun e w' ⟨he, hw⟩ => ⟨_, he, ?_⟩
  subst hw
  have hl : (Lib.splitB a1 0 (Lib.countB a0 a1) a0).length = Lib.countB a0 a1 + 1 := Lib.splitB_all a1 c.2 0 _ a0 rfl
  exact newS hl

/-! ### kit_Words: function 85 -/
def kit_Words.l0 : Nat → List ByteArray → List ByteArray → Int → Int → Option ((List ByteArray) × Bool)
  | 0, _, _, _, _ => Option.none
  | k + 1, x4, x9, x10, x11 => (if x11 < x10 then (if 0 ≤ x11 then (if x11 < (x9.length : Int) then (if (rdE eS x9 x11) = (⟨#[]⟩ : ByteArray) then Option.some ([], false) else kit_Words.l0 k x4 x9 x10 (wrap64 (x11 + 1))) else Option.none) else Option.none) else Option.some (x4, true))
def kit_Words.f (k : Nat) (a0 : ByteArray) : Option ((List ByteArray) × Bool) := ((strings_Split.f a0 (⟨#[32]⟩ : ByteArray)).bind fun r1 => kit_Words.l0 k r1 r1 (r1.length : Int) 0)
theorem kit_Words.loops : ∀ k, (∀ (x4 : List ByteArray) (x9 : List ByteArray) (x10 : Int) (x11 : Int), RS (fam Tryz.f85 [] [] [] (fun r : (List ByteArray) × Bool => .tup [sq eS r.1, .bool r.2]) (fun r => [])) (Func.head Tryz.f85 0) ⟨ofT [(4, sq eS x4), (9, sq eS x9), (10, .int .i64 x10), (11, .int .i64 x11)], ofL []⟩ (kit_Words.l0 k x4 x9 x10 x11))
  | 0 => by intro _ _ _ _; simp only [kit_Words.l0]; exact RS.none
  | k + 1 => by
    have ih := kit_Words.loops k
    · intro x4 x9 x10 x11
      simp only [kit_Words.l0]
      refine RS.go ?_
      refine RT.br rfl (fun c5 => ?_) (fun c5 => ?_)
      · refine RT.br rfl (fun c2 => ?_) (fun c2 => RT.none)
        refine RT.br rfl (fun c3 => ?_) (fun c3 => RT.none)
        refine RT.br rfl (fun c4 => ?_) (fun c4 => ?_)
        · exact RT.done rfl rfl (Le.tup (LeL.cons (Le.nil _ _) (LeL.cons (Le.refl _) (LeL.nil)))) trivial rfl (dom0 rfl)
        · refine RT.goto rfl ?_
          refine RS.weak [(4, sq eS x4), (9, sq eS x9), (10, .int .i64 x10), (11, .int .i64 (wrap64 (x11 + 1)))] [] ⟨Le.eq (by first | rfl | simp), Le.eq (by first | rfl | simp), Le.eq (by first | rfl | simp), Le.eq (by first | rfl | simp), trivial⟩ trivial rfl (dom0 rfl) ?_
          exact ih x4 x9 x10 (wrap64 (x11 + 1)) 
      · exact RT.done rfl rfl (Le.tup (LeL.cons (Le.refl _) (LeL.cons (Le.refl _) (LeL.nil)))) trivial rfl (dom0 rfl)
theorem kit_Words.ok (k : Nat) (a0 : ByteArray) (r : (List ByteArray) × Bool) (h : kit_Words.f k a0 = some r) : Ct Tryz.prog B 85 [.str a0] (ofL []) (.tup [sq eS r.1, .bool r.2]) (ofL []) := by
  refine Ct.of (Y := (fam Tryz.f85 [] [] [] (fun r : (List ByteArray) × Bool => .tup [sq eS r.1, .bool r.2]) (fun r => []))) Tryz.func85 rfl Tryz.call85 rfl rfl ?_ r h
  unfold kit_Words.f
  refine RS.go ?_
  refine RT.call0 rfl (fun _ h => strings_Split.ok a0 (⟨#[32]⟩ : ByteArray) _ h) (LeL.eq rfl) (fun _ => rfl) (fun r1 => ?_)
  refine RS.go ?_
  refine RT.goto rfl ?_
  refine RS.weak [(4, sq eS r1), (9, sq eS r1), (10, .int .i64 (r1.length : Int)), (11, .int .i64 0)] [] ⟨Le.eq (by first | rfl | simp), Le.eq (by first | rfl | simp), Le.eq (by first | rfl | simp), Le.eq (by first | rfl | simp), trivial⟩ trivial rfl (dom0 rfl) ?_
  exact kit_Words.loops k r1 r1 (r1.length : Int) 0 
def strings_Fields.f (a0 : ByteArray) : Option (List ByteArray) := if a0.size < 4294967281 ∧ asciiT a0 = true then some ((Lib.fields a0.data.toList).map fun l => ⟨l.toArray⟩) else none
theorem strings_Fields.ok (a0 : ByteArray) (r : List ByteArray) (h : strings_Fields.f a0 = some r) : Ct Tryz.prog B 139 [.str a0] (ofL []) (sq eS r) (ofL []) := by
  unfold strings_Fields.f at h
  split at h
  case isFalse => cases h
  case isTrue c =>
  cases h
  refine Ct.libS Tryz.call139 rfl fun g w hb => ?_
  refine (Tryz.strings_Fields a0 w c.1 (asciiT_at c.2) (hbAsc hb)).mono fun e w' ⟨he, hw⟩ => ⟨_, he, ?_⟩
  subst hw
  have key : ∀ T, NewSl eS ((Lib.fields a0.data.toList).map fun l => (⟨l.toArray⟩ : ByteArray)) w (.slice (some ⟨w.heap.size, 0, none⟩) (Lib.fields a0.data.toList).length (Lib.fields a0.data.toList).length) (w.alloc (.cells ((Lib.fields a0.data.toList).map fun l => Value.string ⟨l.toArray⟩).toArray T)) := fun T => by
    have := newS (w := w) (T := T) (l := (Lib.fields a0.data.toList).map fun l => (⟨l.toArray⟩ : ByteArray)) (n := (Lib.fields a0.data.toList).length) (by simp)
    rwa [List.map_map] at this
  exact key _

/-! ### key_Codes: function 121 -/
def key_Codes.k0 : List DK := [⟨[23], [], [2], []⟩, ⟨[11, 22], [23, 2], [23], [2]⟩, ⟨[21], [22], [22], []⟩, ⟨[15, 20], [], [21], []⟩, ⟨[19], [], [20], []⟩, ⟨[16, 18], [], [19], []⟩, ⟨[17], [], [18], []⟩, ⟨[3], [], [17], []⟩, ⟨[1], [], [16], []⟩, ⟨[14], [], [15], []⟩, ⟨[12, 13], [], [14], []⟩, ⟨[3], [], [13], []⟩, ⟨[1], [], [12], []⟩, ⟨[2], [], [11], []⟩]
def key_Codes.k1 : List Nat := [0, 0, 0, 6, 14, 0, 0, 64, 224, 480, 1022, 2046, 4095, 8191]
def key_Codes.l0 : Nat → List ByteArray → Int → List (ByteArray × ByteArray) → Option ((List (ByteArray × ByteArray)))
  | 0, _, _, _ => Option.none
  | k + 1, x1, x3, o2 => (if x3 < (x1.length : Int) then (if 0 ≤ x3 then (if x3 < (x1.length : Int) then (if 0 ≤ wrap64 (x3 + 1) then (if wrap64 (x3 + 1) < (x1.length : Int) then (if o2.length + [((rdE eS x1 x3), (rdE eS x1 (wrap64 (x3 + 1))))].length ≤ 549755813888 then key_Codes.l0 k x1 (wrap64 (x3 + 2)) (o2 ++ [((rdE eS x1 x3), (rdE eS x1 (wrap64 (x3 + 1))))]) else Option.none) else Option.none) else Option.none) else Option.none) else Option.none) else Option.some o2)
def key_Codes.f (k : Nat) : Option ((List (ByteArray × ByteArray))) := ((strings_Fields.f str_2).bind fun r1 => key_Codes.l0 k r1 0 [])
theorem key_Codes.loops : ∀ k, (∀ (x1 : List ByteArray) (x3 : Int) (o2 : List (ByteArray × ByteArray)), RS (fam Tryz.f121 [] [] [] (fun r : (List (ByteArray × ByteArray)) => sq e_SS r) (fun r => [])) (Func.head Tryz.f121 0) ⟨ofT [(1, sq eS x1), (2, .osl 2 e_SS.w 0 o2.length o2.length), (3, .int .i64 x3)], ofL [(2, bufE e_SS o2)]⟩ (key_Codes.l0 k x1 x3 o2))
  | 0 => by intro _ _ _; simp only [key_Codes.l0]; exact RS.none
  | k + 1 => by
    have ih := key_Codes.loops k
    · intro x1 x3 o2
      simp only [key_Codes.l0]
      refine RS.go ?_
      refine RT.br rfl (fun c7 => ?_) (fun c7 => ?_)
      · refine RT.goto rfl ?_
        refine RS.draw rfl ?_
        refine RD.br rfl (fun c2 => ?_) (fun c2 => RD.none)
        refine RD.br rfl (fun c3 => ?_) (fun c3 => RD.none)
        refine RD.br rfl (fun c4 => ?_) (fun c4 => RD.none)
        refine RD.br rfl (fun c5 => ?_) (fun c5 => RD.none)
        refine RD.req rfl ⟨by first | rfl | simp, by first | exact Nat.le_refl _ | simp⟩ ?_
        refine RD.not rfl (by simp <;> omega) ?_
        refine RD.br rfl (fun c6 => ?_) (fun _ => RD.none)
        refine RD.fin key_Codes.k0 key_Codes.k1 rfl rfl (by decide +kernel) ?_
        refine RS.obj 2 (bufE e_SS (o2 ++ [((rdE eS x1 x3), (rdE eS x1 (wrap64 (x3 + 1))))])) ⟨_, rfl, LeO.app (l := o2) (m := [((rdE eS x1 x3), (rdE eS x1 (wrap64 (x3 + 1))))]) (cells_of rfl)⟩ ?_
        refine RS.slot 2 (.osl 2 e_SS.w 0 (o2 ++ [((rdE eS x1 x3), (rdE eS x1 (wrap64 (x3 + 1))))]).length (o2 ++ [((rdE eS x1 x3), (rdE eS x1 (wrap64 (x3 + 1))))]).length) (Le.oslN rfl (by simp)) ?_
        refine RS.slot 23 (.osl 2 e_SS.w 0 (o2 ++ [((rdE eS x1 x3), (rdE eS x1 (wrap64 (x3 + 1))))]).length (o2 ++ [((rdE eS x1 x3), (rdE eS x1 (wrap64 (x3 + 1))))]).length) (Le.oslN rfl (by simp)) ?_
        refine RS.go ?_
        refine RT.goto rfl ?_
        refine RS.weak [(1, sq eS x1), (2, .osl 2 e_SS.w 0 (o2 ++ [((rdE eS x1 x3), (rdE eS x1 (wrap64 (x3 + 1))))]).length (o2 ++ [((rdE eS x1 x3), (rdE eS x1 (wrap64 (x3 + 1))))]).length), (3, .int .i64 (wrap64 (x3 + 2)))] [(2, bufE e_SS (o2 ++ [((rdE eS x1 x3), (rdE eS x1 (wrap64 (x3 + 1))))]))] ⟨Le.eq (by first | rfl | simp), (by first | exact Le.oslN rfl (by first | rfl | simp) | exact Le.refl _ | exact Le.eq (by first | rfl | simp)), Le.eq (by first | rfl | simp), trivial⟩ ⟨⟨_, rfl, LeO.refl _⟩, trivial⟩ rfl (dom0 rfl) ?_
        exact ih x1 (wrap64 (x3 + 2)) (o2 ++ [((rdE eS x1 x3), (rdE eS x1 (wrap64 (x3 + 1))))]) 
      · refine RT.freeze 2 _ _ _ [(0, sq e_SS o2)] [] rfl rfl ⟨.inr ⟨_, rfl, by first | exact Nat.le_refl _ | simp, rfl⟩, trivial⟩ trivial rfl (dom0 rfl) ?_
        exact RT.done rfl rfl (Le.refl _) trivial rfl (dom0 rfl)
theorem key_Codes.ok (k : Nat) (r : (List (ByteArray × ByteArray))) (h : key_Codes.f k  = some r) : Ct Tryz.prog B 121 [] (ofL []) (sq e_SS r) (ofL []) := by
  refine Ct.of (Y := (fam Tryz.f121 [] [] [] (fun r : (List (ByteArray × ByteArray)) => sq e_SS r) (fun r => []))) Tryz.func121 rfl Tryz.call121 rfl rfl ?_ r h
  unfold key_Codes.f
  refine RS.go ?_
  refine RT.call0 rfl (fun _ h => strings_Fields.ok str_2 _ h) (LeL.eq rfl) (fun _ => rfl) (fun r1 => ?_)
  refine RS.go ?_
  refine RT.goto rfl ?_
  refine RS.ghost 2 2 e_SS.w (rep e_SS []) rfl rfl ?_
  refine RS.weak [(1, sq eS r1), (2, .osl 2 e_SS.w 0 ([] : List (ByteArray × ByteArray)).length ([] : List (ByteArray × ByteArray)).length), (3, .int .i64 0)] [(2, bufE e_SS ([] : List (ByteArray × ByteArray)))] ⟨Le.eq (by first | rfl | simp), (by first | exact Le.oslN rfl (by first | rfl | simp) | exact Le.refl _ | exact Le.eq (by first | rfl | simp)), Le.eq (by first | rfl | simp), trivial⟩ ⟨⟨_, rfl, LeO.refl _⟩, trivial⟩ rfl (dom0 rfl) ?_
  exact key_Codes.loops k r1 0 [] 
/-! ### key_byBytes: function 86 -/
def key_byBytes.k0 : List DK := [⟨[11, 14, 16], [4], [], [4]⟩, ⟨[15], [3], [16], []⟩, ⟨[3], [3], [15], []⟩, ⟨[13], [], [14], []⟩, ⟨[12], [3], [13], []⟩, ⟨[3], [3], [12], []⟩, ⟨[1], [], [11], []⟩]
def key_byBytes.k1 : List Nat := [0, 0, 2, 6, 0, 16, 63]
def key_byBytes.l0 : Nat → List (ByteArray × ByteArray) → Int → Int → List (Int × ByteArray) → Option ((List (Int × ByteArray)))
  | 0, _, _, _, _ => Option.none
  | k + 1, x5, x6, x7, o4 => (if x7 < x6 then (if 0 ≤ x7 then (if x7 < (x5.length : Int) then (if 0 < (((rdE e_SS x5 x7).1).size : Int) then key_byBytes.l0 k x5 x6 (wrap64 (x7 + 1)) (mput o4 (bt ((rdE e_SS x5 x7).1) 0) ((rdE e_SS x5 x7).2)) else Option.none) else Option.none) else Option.none) else Option.some o4)
def key_byBytes.f (k : Nat) : Option ((List (Int × ByteArray))) := ((key_Codes.f k ).bind fun r1 => key_byBytes.l0 k r1 (r1.length : Int) 0 ([] : List (Int × ByteArray)))
theorem key_byBytes.loops : ∀ k, (∀ (x5 : List (ByteArray × ByteArray)) (x6 : Int) (x7 : Int) (o4 : List (Int × ByteArray)), RS (fam Tryz.f86 [] [] [] (fun r : (List (Int × ByteArray)) => .omap 4) (fun r => [(4, mapE (KL.ints .u8) (ByteArray.empty : ByteArray) AV.str r)])) (Func.head Tryz.f86 0) ⟨ofT [(1, .omap 4), (5, sq e_SS x5), (6, .int .i64 x6), (7, .int .i64 x7)], ofL [(4, mapE (KL.ints .u8) (ByteArray.empty : ByteArray) AV.str o4)]⟩ (key_byBytes.l0 k x5 x6 x7 o4))
  | 0 => by intro _ _ _ _; simp only [key_byBytes.l0]; exact RS.none
  | k + 1 => by
    have ih := key_byBytes.loops k
    · intro x5 x6 x7 o4
      simp only [key_byBytes.l0]
      refine RS.go ?_
      refine RT.br rfl (fun c5 => ?_) (fun c5 => ?_)
      · refine RT.br rfl (fun c2 => ?_) (fun c2 => RT.none)
        refine RT.br rfl (fun c3 => ?_) (fun c3 => RT.none)
        refine RT.goto rfl ?_
        refine RS.draw rfl ?_
        refine RD.brT rfl ?_
        refine RD.br rfl (fun c4 => ?_) (fun c4 => RD.none)
        refine RD.fin key_byBytes.k0 key_byBytes.k1 rfl rfl (by decide +kernel) ?_
        refine RS.obj 4 (mapE (KL.ints .u8) (ByteArray.empty : ByteArray) AV.str (mput o4 (bt ((rdE e_SS x5 x7).1) 0) ((rdE e_SS x5 x7).2))) ⟨_, rfl, LeO.putI⟩ ?_
        refine RS.go ?_
        refine RT.goto rfl ?_
        refine RS.weak [(1, .omap 4), (5, sq e_SS x5), (6, .int .i64 x6), (7, .int .i64 (wrap64 (x7 + 1)))] [(4, mapE (KL.ints .u8) (ByteArray.empty : ByteArray) AV.str (mput o4 (bt ((rdE e_SS x5 x7).1) 0) ((rdE e_SS x5 x7).2)))] ⟨Le.eq (by first | rfl | simp), Le.eq (by first | rfl | simp), Le.eq (by first | rfl | simp), Le.eq (by first | rfl | simp), trivial⟩ ⟨⟨_, rfl, LeO.refl _⟩, trivial⟩ rfl (dom0 rfl) ?_
        exact ih x5 x6 (wrap64 (x7 + 1)) (mput o4 (bt ((rdE e_SS x5 x7).1) 0) ((rdE e_SS x5 x7).2)) 
      · exact RT.done rfl rfl (Le.refl _) ⟨⟨_, rfl, LeO.refl _⟩, trivial⟩ rfl (dom0 rfl)
theorem key_byBytes.ok (k : Nat) (r : (List (Int × ByteArray))) (h : key_byBytes.f k  = some r) : Ct Tryz.prog B 86 [] (ofL []) (.omap 4) (ofL [(4, mapE (KL.ints .u8) (ByteArray.empty : ByteArray) AV.str r)]) := by
  refine Ct.of (Y := (fam Tryz.f86 [] [] [] (fun r : (List (Int × ByteArray)) => .omap 4) (fun r => [(4, mapE (KL.ints .u8) (ByteArray.empty : ByteArray) AV.str r)]))) Tryz.func86 rfl Tryz.call86 rfl rfl ?_ r h
  unfold key_byBytes.f
  refine RS.go ?_
  refine RT.call0 rfl (fun _ h => key_Codes.ok k  _ h) (LeL.eq rfl) (fun _ => rfl) (fun r1 => ?_)
  refine RS.go ?_
  refine RT.goto rfl ?_
  refine RS.weak [(1, .omap 4), (5, sq e_SS r1), (6, .int .i64 (r1.length : Int)), (7, .int .i64 0)] [(4, mapE (KL.ints .u8) (ByteArray.empty : ByteArray) AV.str ([] : List (Int × ByteArray)))] ⟨Le.eq (by first | rfl | simp), Le.eq (by first | rfl | simp), Le.eq (by first | rfl | simp), Le.eq (by first | rfl | simp), trivial⟩ ⟨⟨_, rfl, LeO.refl _⟩, trivial⟩ rfl (dom0 rfl) ?_
  exact key_byBytes.loops k r1 (r1.length : Int) 0 ([] : List (Int × ByteArray)) 
/-! ### key_CheckSaid: function 59 -/
mutual
def key_CheckSaid.l1 : Nat → List ByteArray → Int → Int → List (Int × ByteArray) → Int → Option (Int)
  | 0, _, _, _, _, _ => Option.none
  | k + 1, x20, x21, x22, o19, x28b => (if x28b < ((rdE eS x20 x22).size : Int) then (if 0 ≤ x28b then (if x28b < ((rdE eS x20 x22).size : Int) then (if (mget (ByteArray.empty : ByteArray) o19 (bt (rdE eS x20 x22) x28b)) = (⟨#[]⟩ : ByteArray) then Option.some 3 else key_CheckSaid.l1 k x20 x21 x22 o19 (wrap64 (x28b + 1))) else Option.none) else Option.none) else key_CheckSaid.l0 k x20 x21 (wrap64 (x22 + 1)) o19)
def key_CheckSaid.l0 : Nat → List ByteArray → Int → Int → List (Int × ByteArray) → Option (Int)
  | 0, _, _, _, _ => Option.none
  | k + 1, x20, x21, x22, o19 => (if x22 < x21 then (if 0 ≤ x22 then (if x22 < (x20.length : Int) then key_CheckSaid.l1 k x20 x21 x22 o19 0 else Option.none) else Option.none) else Option.some 0)
end
def key_CheckSaid.f (k : Nat) (a0 : ByteArray) : Option (Int) := (if (a0.size : Int) > 500 then Option.some 2 else ((kit_Words.f k a0).bind fun r1 => (if r1.2 = true then ((key_byBytes.f k ).bind fun r2 => key_CheckSaid.l0 k r1.1 (r1.1.length : Int) 0 r2) else Option.some 3)))
theorem key_CheckSaid.loops : ∀ k, (∀ (x20 : List ByteArray) (x21 : Int) (x22 : Int) (o19 : List (Int × ByteArray)) (x28b : Int), RS (fam Tryz.f59 [] [] [] (fun r : Int => .int .i64 r) (fun r => [])) (Func.head Tryz.f59 1) ⟨ofT [(5, .omap 19), (7, .str (rdE eS x20 x22)), (20, sq eS x20), (21, .int .i64 x21), (22, .int .i64 x22), (27, .int .i64 ((rdE eS x20 x22).size : Int)), (28, .int .i64 x28b)], ofL [(19, mapE (KL.ints .u8) (ByteArray.empty : ByteArray) AV.str o19)]⟩ (key_CheckSaid.l1 k x20 x21 x22 o19 x28b)) ∧ (∀ (x20 : List ByteArray) (x21 : Int) (x22 : Int) (o19 : List (Int × ByteArray)), RS (fam Tryz.f59 [] [] [] (fun r : Int => .int .i64 r) (fun r => [])) (Func.head Tryz.f59 0) ⟨ofT [(5, .omap 19), (20, sq eS x20), (21, .int .i64 x21), (22, .int .i64 x22)], ofL [(19, mapE (KL.ints .u8) (ByteArray.empty : ByteArray) AV.str o19)]⟩ (key_CheckSaid.l0 k x20 x21 x22 o19))
  | 0 => ⟨by intro _ _ _ _ _; simp only [key_CheckSaid.l1]; exact RS.none, by intro _ _ _ _; simp only [key_CheckSaid.l0]; exact RS.none⟩
  | k + 1 => by
    have ih := key_CheckSaid.loops k
    refine ⟨?_, ?_⟩
    · intro x20 x21 x22 o19 x28b
      simp only [key_CheckSaid.l1]
      refine RS.go ?_
      refine RT.br rfl (fun c8 => ?_) (fun c8 => ?_)
      · refine RT.br rfl (fun c5 => ?_) (fun c5 => RT.none)
        refine RT.br rfl (fun c6 => ?_) (fun c6 => RT.none)
        refine RT.req rfl (congrArg AV.str (map_end (l := o19) (d := (ByteArray.empty : ByteArray)))) ?_
        refine RT.br rfl (fun c7 => ?_) (fun c7 => ?_)
        · exact RT.done rfl rfl (Le.refl _) trivial rfl (dom0 rfl)
        · refine RT.goto rfl ?_
          refine RS.weak [(5, .omap 19), (7, .str (rdE eS x20 x22)), (20, sq eS x20), (21, .int .i64 x21), (22, .int .i64 x22), (27, .int .i64 ((rdE eS x20 x22).size : Int)), (28, .int .i64 (wrap64 (x28b + 1)))] [(19, mapE (KL.ints .u8) (ByteArray.empty : ByteArray) AV.str o19)] ⟨Le.eq (by first | rfl | simp), Le.eq (by first | rfl | simp), Le.eq (by first | rfl | simp), Le.eq (by first | rfl | simp), Le.eq (by first | rfl | simp), Le.eq (by first | rfl | simp), Le.eq (by first | rfl | simp), trivial⟩ ⟨⟨_, rfl, LeO.refl _⟩, trivial⟩ rfl (dom0 rfl) ?_
          exact ih.1 x20 x21 x22 o19 (wrap64 (x28b + 1)) 
      · refine RT.goto rfl ?_
        refine RS.weak [(5, .omap 19), (20, sq eS x20), (21, .int .i64 x21), (22, .int .i64 (wrap64 (x22 + 1)))] [(19, mapE (KL.ints .u8) (ByteArray.empty : ByteArray) AV.str o19)] ⟨Le.eq (by first | rfl | simp), Le.eq (by first | rfl | simp), Le.eq (by first | rfl | simp), Le.eq (by first | rfl | simp), trivial⟩ ⟨⟨_, rfl, LeO.refl _⟩, trivial⟩ rfl (dom0 rfl) ?_
        exact ih.2 x20 x21 (wrap64 (x22 + 1)) o19 
    · intro x20 x21 x22 o19
      simp only [key_CheckSaid.l0]
      refine RS.go ?_
      refine RT.br rfl (fun c9 => ?_) (fun c9 => ?_)
      · refine RT.br rfl (fun c3 => ?_) (fun c3 => RT.none)
        refine RT.br rfl (fun c4 => ?_) (fun c4 => RT.none)
        refine RT.goto rfl ?_
        refine RS.weak [(5, .omap 19), (7, .str (rdE eS x20 x22)), (20, sq eS x20), (21, .int .i64 x21), (22, .int .i64 x22), (27, .int .i64 ((rdE eS x20 x22).size : Int)), (28, .int .i64 0)] [(19, mapE (KL.ints .u8) (ByteArray.empty : ByteArray) AV.str o19)] ⟨Le.eq (by first | rfl | simp), Le.eq (by first | rfl | simp), Le.eq (by first | rfl | simp), Le.eq (by first | rfl | simp), Le.eq (by first | rfl | simp), Le.eq (by first | rfl | simp), Le.eq (by first | rfl | simp), trivial⟩ ⟨⟨_, rfl, LeO.refl _⟩, trivial⟩ rfl (dom0 rfl) ?_
        exact ih.1 x20 x21 x22 o19 0 
      · exact RT.done rfl rfl (Le.refl _) trivial rfl (dom0 rfl)
theorem key_CheckSaid.ok (k : Nat) (a0 : ByteArray) (r : Int) (h : key_CheckSaid.f k a0 = some r) : Ct Tryz.prog B 59 [.str a0] (ofL []) (.int .i64 r) (ofL []) := by
  refine Ct.of (Y := (fam Tryz.f59 [] [] [] (fun r : Int => .int .i64 r) (fun r => []))) Tryz.func59 rfl Tryz.call59 rfl rfl ?_ r h
  unfold key_CheckSaid.f
  refine RS.go ?_
  refine RT.br rfl (fun c11 => ?_) (fun c11 => ?_)
  · exact RT.done rfl rfl (Le.refl _) trivial rfl (dom0 rfl)
  · refine RT.call0 rfl (fun _ h => kit_Words.ok k a0 _ h) (LeL.eq rfl) (fun _ => rfl) (fun r1 => ?_)
    refine RS.go ?_
    refine RT.brBN rfl (fun c10 => ?_) (fun c10 => ?_)
    · refine RT.call rfl (fun _ h => key_byBytes.ok k  _ h) (fun i => bif Nat.beq i 4 then 19 else i) (LeL.eq rfl) trivial (fun _ => rfl) (fun r2 => ?_)
      refine RS.go ?_
      refine RT.goto rfl ?_
      refine RS.weak [(5, .omap 19), (20, sq eS r1.1), (21, .int .i64 (r1.1.length : Int)), (22, .int .i64 0)] [(19, mapE (KL.ints .u8) (ByteArray.empty : ByteArray) AV.str r2)] ⟨Le.eq (by first | rfl | simp), Le.eq (by first | rfl | simp), Le.eq (by first | rfl | simp), Le.eq (by first | rfl | simp), trivial⟩ ⟨⟨_, rfl, LeO.refl _⟩, trivial⟩ rfl (dom0 rfl) ?_
      exact (key_CheckSaid.loops k).2 r1.1 (r1.1.length : Int) 0 r2 
    · exact RT.done rfl rfl (Le.refl _) trivial rfl (dom0 rfl)
/-! ### key_words: function 87 -/
mutual
def key_words.l1 : Nat → List ByteArray → Int → Int → List (List ByteArray) → List (Int × ByteArray) → Int → List ByteArray → Option ((List (List ByteArray)))
  | 0, _, _, _, _, _, _, _ => Option.none
  | k + 1, x11, x12, x13, o4, o9, x19b, o7b => (if x19b < ((rdE eS x11 x13).size : Int) then (if 0 ≤ x19b then (if x19b < ((rdE eS x11 x13).size : Int) then (if o7b.length + 1 ≤ 549755813888 then key_words.l1 k x11 x12 x13 o4 o9 (wrap64 (x19b + 1)) (o7b ++ [(mget (ByteArray.empty : ByteArray) o9 (bt (rdE eS x11 x13) x19b))]) else Option.none) else Option.none) else Option.none) else (if o4.length + 1 ≤ 549755813888 then key_words.l0 k x11 x12 (wrap64 (x13 + 1)) (o4 ++ [o7b]) o9 else Option.none))
def key_words.l0 : Nat → List ByteArray → Int → Int → List (List ByteArray) → List (Int × ByteArray) → Option ((List (List ByteArray)))
  | 0, _, _, _, _, _ => Option.none
  | k + 1, x11, x12, x13, o4, o9 => (if x13 < x12 then (if 0 ≤ x13 then (if x13 < (x11.length : Int) then key_words.l1 k x11 x12 x13 o4 o9 0 [] else Option.none) else Option.none) else Option.some o4)
end
def key_words.f (k : Nat) (a0 : ByteArray) : Option ((List (List ByteArray))) := ((key_byBytes.f k ).bind fun r1 => ((strings_Split.f a0 (⟨#[32]⟩ : ByteArray)).bind fun r2 => key_words.l0 k r2 (r2.length : Int) 0 [] r1))
theorem key_words.loops : ∀ k, (∀ (x11 : List ByteArray) (x12 : Int) (x13 : Int) (o4 : List (List ByteArray)) (o9 : List (Int × ByteArray)) (x19b : Int) (o7b : List ByteArray), RS (fam Tryz.f87 [12] [] [] (fun r : (List (List ByteArray)) => sq e_L r) (fun r => [])) (Func.head Tryz.f87 1) ⟨ofT [(3, .omap 9), (4, .osl 4 e_L.w 0 o4.length o4.length), (6, .str (rdE eS x11 x13)), (7, .osl 7 eS.w 0 o7b.length o7b.length), (11, sq eS x11), (12, .int .i64 x12), (13, .int .i64 x13), (18, .int .i64 ((rdE eS x11 x13).size : Int)), (19, .int .i64 x19b)], ofL [(4, bufE e_L o4), (7, bufE eS o7b), (9, mapE (KL.ints .u8) (ByteArray.empty : ByteArray) AV.str o9)]⟩ (key_words.l1 k x11 x12 x13 o4 o9 x19b o7b)) ∧ (∀ (x11 : List ByteArray) (x12 : Int) (x13 : Int) (o4 : List (List ByteArray)) (o9 : List (Int × ByteArray)), RS (fam Tryz.f87 [12] [] [] (fun r : (List (List ByteArray)) => sq e_L r) (fun r => [])) (Func.head Tryz.f87 0) ⟨ofT [(3, .omap 9), (4, .osl 4 e_L.w 0 o4.length o4.length), (11, sq eS x11), (12, .int .i64 x12), (13, .int .i64 x13)], ofL [(4, bufE e_L o4), (9, mapE (KL.ints .u8) (ByteArray.empty : ByteArray) AV.str o9)]⟩ (key_words.l0 k x11 x12 x13 o4 o9))
  | 0 => ⟨by intro _ _ _ _ _ _ _; simp only [key_words.l1]; exact RS.none, by intro _ _ _ _ _; simp only [key_words.l0]; exact RS.none⟩
  | k + 1 => by
    have ih := key_words.loops k
    refine ⟨?_, ?_⟩
    · intro x11 x12 x13 o4 o9 x19b o7b
      simp only [key_words.l1]
      refine RS.go ?_
      refine RT.br rfl (fun c9 => ?_) (fun c9 => ?_)
      · refine RT.br rfl (fun c5 => ?_) (fun c5 => RT.none)
        refine RT.br rfl (fun c6 => ?_) (fun c6 => RT.none)
        refine RT.req rfl (congrArg AV.str (map_end (l := o9) (d := (ByteArray.empty : ByteArray)))) ?_
        refine RT.goto rfl ?_
        refine RS.slot 28 (sq eS [(mget (ByteArray.empty : ByteArray) o9 (bt (rdE eS x11 x13) x19b))]) (Le.lit (E := eS) (l := [(mget (ByteArray.empty : ByteArray) o9 (bt (rdE eS x11 x13) x19b))]) (cells_of rfl)) ?_
        refine RS.go ?_
        refine RT.req rfl ⟨by first | rfl | simp, by first | exact Nat.le_refl _ | simp⟩ ?_
        refine RT.not rfl (by simp <;> omega) ?_
        refine RT.br rfl (fun c7 => ?_) (fun _ => RT.none)
        refine RT.goto rfl ?_
        refine RS.obj 7 (bufE eS (o7b ++ [(mget (ByteArray.empty : ByteArray) o9 (bt (rdE eS x11 x13) x19b))])) ⟨_, rfl, LeO.app (l := o7b) (m := [(mget (ByteArray.empty : ByteArray) o9 (bt (rdE eS x11 x13) x19b))]) fun _ _ _ _ => rfl⟩ ?_
        refine RS.slot 29 (.osl 7 eS.w 0 (o7b ++ [(mget (ByteArray.empty : ByteArray) o9 (bt (rdE eS x11 x13) x19b))]).length (o7b ++ [(mget (ByteArray.empty : ByteArray) o9 (bt (rdE eS x11 x13) x19b))]).length) (by first | exact Le.oslN rfl (by simp) | exact Le.trans (y := .osl 7 eS.w 0 (o7b.length + 1) (o7b.length + 1)) (Le.refl _) (Le.oslN rfl (by simp))) ?_
        refine RS.go ?_
        refine RT.goto rfl ?_
        refine RS.weak [(3, .omap 9), (4, .osl 4 e_L.w 0 o4.length o4.length), (6, .str (rdE eS x11 x13)), (7, .osl 7 eS.w 0 (o7b ++ [(mget (ByteArray.empty : ByteArray) o9 (bt (rdE eS x11 x13) x19b))]).length (o7b ++ [(mget (ByteArray.empty : ByteArray) o9 (bt (rdE eS x11 x13) x19b))]).length), (11, sq eS x11), (12, .int .i64 x12), (13, .int .i64 x13), (18, .int .i64 ((rdE eS x11 x13).size : Int)), (19, .int .i64 (wrap64 (x19b + 1)))] [(4, bufE e_L o4), (7, bufE eS (o7b ++ [(mget (ByteArray.empty : ByteArray) o9 (bt (rdE eS x11 x13) x19b))])), (9, mapE (KL.ints .u8) (ByteArray.empty : ByteArray) AV.str o9)] ⟨Le.eq (by first | rfl | simp), (by first | exact Le.oslN rfl (by first | rfl | simp) | exact Le.refl _ | exact Le.eq (by first | rfl | simp)), Le.eq (by first | rfl | simp), (by first | exact Le.oslN rfl (by first | rfl | simp) | exact Le.refl _ | exact Le.eq (by first | rfl | simp)), Le.eq (by first | rfl | simp), Le.eq (by first | rfl | simp), Le.eq (by first | rfl | simp), Le.eq (by first | rfl | simp), Le.eq (by first | rfl | simp), trivial⟩ ⟨⟨_, rfl, LeO.refl _⟩, ⟨_, rfl, LeO.refl _⟩, ⟨_, rfl, LeO.refl _⟩, trivial⟩ rfl (dom0 rfl) ?_
        exact ih.1 x11 x12 x13 o4 o9 (wrap64 (x19b + 1)) (o7b ++ [(mget (ByteArray.empty : ByteArray) o9 (bt (rdE eS x11 x13) x19b))]) 
      · refine RT.goto rfl ?_
        refine RS.freeze 7 _ _ _ [(3, .omap 9), (4, .osl 4 e_L.w 0 o4.length o4.length), (7, sq eS o7b), (11, sq eS x11), (12, .int .i64 x12), (13, .int .i64 x13)] [(4, bufE e_L o4), (9, mapE (KL.ints .u8) (ByteArray.empty : ByteArray) AV.str o9)] rfl ⟨.inl (Le.refl _), .inl (Le.refl _), .inr ⟨_, rfl, by first | exact Nat.le_refl _ | simp, rfl⟩, .inl (Le.refl _), .inl (Le.refl _), .inl (Le.refl _), trivial⟩ ⟨⟨_, rfl, LeO.refl _⟩, ⟨_, rfl, LeO.refl _⟩, trivial⟩ rfl (dom0 rfl) ?_
        refine RS.region ?_
        refine RS.go ?_
        refine RT.goto rfl ?_
        refine RS.slot 33 (sq e_L [o7b]) (Le.lit (E := e_L) (l := [o7b]) (cells_of rfl)) ?_
        refine RS.go ?_
        refine RT.req rfl ⟨by first | rfl | simp, by first | exact Nat.le_refl _ | simp⟩ ?_
        refine RT.not rfl (by simp <;> omega) ?_
        refine RT.br rfl (fun c8 => ?_) (fun _ => RT.none)
        refine RT.goto rfl ?_
        refine RS.obj 4 (bufE e_L (o4 ++ [o7b])) ⟨_, rfl, LeO.app (l := o4) (m := [o7b]) fun _ _ _ _ => rfl⟩ ?_
        refine RS.slot 34 (.osl 4 e_L.w 0 (o4 ++ [o7b]).length (o4 ++ [o7b]).length) (by first | exact Le.oslN rfl (by simp) | exact Le.trans (y := .osl 4 e_L.w 0 (o4.length + 1) (o4.length + 1)) (Le.refl _) (Le.oslN rfl (by simp))) ?_
        refine RS.go ?_
        refine RT.goto rfl ?_
        refine RS.weak [(3, .omap 9), (4, .osl 4 e_L.w 0 (o4 ++ [o7b]).length (o4 ++ [o7b]).length), (11, sq eS x11), (12, .int .i64 x12), (13, .int .i64 (wrap64 (x13 + 1)))] [(4, bufE e_L (o4 ++ [o7b])), (9, mapE (KL.ints .u8) (ByteArray.empty : ByteArray) AV.str o9)] ⟨Le.eq (by first | rfl | simp), (by first | exact Le.oslN rfl (by first | rfl | simp) | exact Le.refl _ | exact Le.eq (by first | rfl | simp)), Le.eq (by first | rfl | simp), Le.eq (by first | rfl | simp), Le.eq (by first | rfl | simp), trivial⟩ ⟨⟨_, rfl, LeO.refl _⟩, ⟨_, rfl, LeO.refl _⟩, trivial⟩ rfl (dom0 rfl) ?_
        exact ih.2 x11 x12 (wrap64 (x13 + 1)) (o4 ++ [o7b]) o9 
    · intro x11 x12 x13 o4 o9
      simp only [key_words.l0]
      refine RS.go ?_
      refine RT.br rfl (fun c10 => ?_) (fun c10 => ?_)
      · refine RT.br rfl (fun c3 => ?_) (fun c3 => RT.none)
        refine RT.br rfl (fun c4 => ?_) (fun c4 => RT.none)
        refine RT.goto rfl ?_
        refine RS.ghost 7 7 eS.w (rep eS []) rfl rfl ?_
        refine RS.weak [(3, .omap 9), (4, .osl 4 e_L.w 0 o4.length o4.length), (6, .str (rdE eS x11 x13)), (7, .osl 7 eS.w 0 ([] : List ByteArray).length ([] : List ByteArray).length), (11, sq eS x11), (12, .int .i64 x12), (13, .int .i64 x13), (18, .int .i64 ((rdE eS x11 x13).size : Int)), (19, .int .i64 0)] [(4, bufE e_L o4), (7, bufE eS ([] : List ByteArray)), (9, mapE (KL.ints .u8) (ByteArray.empty : ByteArray) AV.str o9)] ⟨Le.eq (by first | rfl | simp), (by first | exact Le.oslN rfl (by first | rfl | simp) | exact Le.refl _ | exact Le.eq (by first | rfl | simp)), Le.eq (by first | rfl | simp), (by first | exact Le.oslN rfl (by first | rfl | simp) | exact Le.refl _ | exact Le.eq (by first | rfl | simp)), Le.eq (by first | rfl | simp), Le.eq (by first | rfl | simp), Le.eq (by first | rfl | simp), Le.eq (by first | rfl | simp), Le.eq (by first | rfl | simp), trivial⟩ ⟨⟨_, rfl, LeO.refl _⟩, ⟨_, rfl, LeO.refl _⟩, ⟨_, rfl, LeO.refl _⟩, trivial⟩ rfl (dom0 rfl) ?_
        exact ih.1 x11 x12 x13 o4 o9 0 [] 
      · refine RT.freeze 4 _ _ _ [(2, sq e_L o4)] [] rfl rfl ⟨.inr ⟨_, rfl, by first | exact Nat.le_refl _ | simp, rfl⟩, trivial⟩ trivial rfl (dom0 rfl) ?_
        exact RT.done rfl rfl (Le.refl _) trivial rfl (dom0 rfl)
theorem key_words.ok (k : Nat) (a0 : ByteArray) (r : (List (List ByteArray))) (h : key_words.f k a0 = some r) : Ct Tryz.prog B 87 [.str a0] (ofL []) (sq e_L r) (ofL []) := by
  refine Ct.of (Y := (fam Tryz.f87 [12] [] [] (fun r : (List (List ByteArray)) => sq e_L r) (fun r => []))) Tryz.func87 rfl Tryz.call87 rfl rfl ?_ r h
  unfold key_words.f
  refine RS.go ?_
  refine RT.call rfl (fun _ h => key_byBytes.ok k  _ h) (fun i => bif Nat.beq i 4 then 9 else i) (LeL.eq rfl) trivial (fun _ => rfl) (fun r1 => ?_)
  refine RS.go ?_
  refine RT.call0 rfl (fun _ h => strings_Split.ok a0 (⟨#[32]⟩ : ByteArray) _ h) (LeL.eq rfl) (fun _ => rfl) (fun r2 => ?_)
  refine RS.go ?_
  refine RT.goto rfl ?_
  refine RS.ghost 4 4 e_L.w (rep e_L []) rfl rfl ?_
  refine RS.weak [(3, .omap 9), (4, .osl 4 e_L.w 0 ([] : List (List ByteArray)).length ([] : List (List ByteArray)).length), (11, sq eS r2), (12, .int .i64 (r2.length : Int)), (13, .int .i64 0)] [(4, bufE e_L ([] : List (List ByteArray))), (9, mapE (KL.ints .u8) (ByteArray.empty : ByteArray) AV.str r1)] ⟨Le.eq (by first | rfl | simp), (by first | exact Le.oslN rfl (by first | rfl | simp) | exact Le.refl _ | exact Le.eq (by first | rfl | simp)), Le.eq (by first | rfl | simp), Le.eq (by first | rfl | simp), Le.eq (by first | rfl | simp), trivial⟩ ⟨⟨_, rfl, LeO.refl _⟩, ⟨_, rfl, LeO.refl _⟩, trivial⟩ rfl (dom0 rfl) ?_
  exact (key_words.loops k).2 r2 (r2.length : Int) 0 [] r1 
/-! ### key_lengths: function 60 -/
mutual
def key_lengths.j20 : Nat → Int → Int → List (List ByteArray) → Int → Int → Int → Int → List Int → Int → Option ((List Int))
  | 0, _, _, _, _, _, _, _, _, _ => Option.none
  | k + 1, a1, a2, x15, x16, x17, x31b, x45c, o7j17, x13j20 => (if o7j17.length + 1 ≤ 549755813888 then key_lengths.l2 k a1 a2 x15 x16 x17 x31b (wrap64 (x45c + 1)) (o7j17 ++ [x13j20]) else Option.none)
def key_lengths.j17 : Nat → Int → Int → List (List ByteArray) → Int → Int → Int → Int → List Int → Option ((List Int))
  | 0, _, _, _, _, _, _, _, _ => Option.none
  | k + 1, a1, a2, x15, x16, x17, x31b, x45c, o7j17 => (if 0 ≤ x45c then (if x45c < ((rdE eS (rdE e_L x15 x17) x31b).size : Int) then (if bt (rdE eS (rdE e_L x15 x17) x31b) x45c = 45 then key_lengths.j20 k a1 a2 x15 x16 x17 x31b x45c o7j17 (wrap64 (a1 * 3)) else key_lengths.j20 k a1 a2 x15 x16 x17 x31b x45c o7j17 a1) else Option.none) else Option.none)
def key_lengths.l2 : Nat → Int → Int → List (List ByteArray) → Int → Int → Int → Int → List Int → Option ((List Int))
  | 0, _, _, _, _, _, _, _, _ => Option.none
  | k + 1, a1, a2, x15, x16, x17, x31b, x45c, o7c => (if x45c < ((rdE eS (rdE e_L x15 x17) x31b).size : Int) then (if x45c > 0 then (if o7c.length + 1 ≤ 549755813888 then key_lengths.j17 k a1 a2 x15 x16 x17 x31b x45c (o7c ++ [a1]) else Option.none) else key_lengths.j17 k a1 a2 x15 x16 x17 x31b x45c o7c) else key_lengths.l1 k a1 a2 x15 x16 x17 (wrap64 (x31b + 1)) o7c)
def key_lengths.j12 : Nat → Int → Int → List (List ByteArray) → Int → Int → Int → List Int → Option ((List Int))
  | 0, _, _, _, _, _, _, _ => Option.none
  | k + 1, a1, a2, x15, x16, x17, x31b, o7j12 => key_lengths.l2 k a1 a2 x15 x16 x17 x31b 0 o7j12
def key_lengths.l1 : Nat → Int → Int → List (List ByteArray) → Int → Int → Int → List Int → Option ((List Int))
  | 0, _, _, _, _, _, _, _ => Option.none
  | k + 1, a1, a2, x15, x16, x17, x31b, o7b => (if x31b < ((rdE e_L x15 x17).length : Int) then (if 0 ≤ x31b then (if x31b < ((rdE e_L x15 x17).length : Int) then (if x31b > 0 then (if o7b.length + 1 ≤ 549755813888 then key_lengths.j12 k a1 a2 x15 x16 x17 x31b (o7b ++ [wrap64 (3 * a2)]) else Option.none) else key_lengths.j12 k a1 a2 x15 x16 x17 x31b o7b) else Option.none) else Option.none) else key_lengths.l0 k a1 a2 x15 x16 (wrap64 (x17 + 1)) o7b)
def key_lengths.j7 : Nat → Int → Int → List (List ByteArray) → Int → Int → List Int → Option ((List Int))
  | 0, _, _, _, _, _, _ => Option.none
  | k + 1, a1, a2, x15, x16, x17, o7j7 => key_lengths.l1 k a1 a2 x15 x16 x17 0 o7j7
def key_lengths.l0 : Nat → Int → Int → List (List ByteArray) → Int → Int → List Int → Option ((List Int))
  | 0, _, _, _, _, _, _ => Option.none
  | k + 1, a1, a2, x15, x16, x17, o7 => (if x17 < x16 then (if 0 ≤ x17 then (if x17 < (x15.length : Int) then (if x17 > 0 then (if o7.length + 1 ≤ 549755813888 then key_lengths.j7 k a1 a2 x15 x16 x17 (o7 ++ [wrap64 (7 * a2)]) else Option.none) else key_lengths.j7 k a1 a2 x15 x16 x17 o7) else Option.none) else Option.none) else Option.some o7)
end
def key_lengths.f (k : Nat) (a0 : ByteArray) (a1 : Int) (a2 : Int) : Option ((List Int)) := ((key_words.f k a0).bind fun r1 => key_lengths.l0 k a1 a2 r1 (r1.length : Int) 0 [])
theorem key_lengths.loops : ∀ k, (∀ (a1 : Int) (a2 : Int) (x15 : List (List ByteArray)) (x16 : Int) (x17 : Int) (x31b : Int) (x45c : Int) (o7j17 : List Int) (x13j20 : Int), RS (fam Tryz.f60 [7, 12, 17, 20] [] [] (fun r : (List Int) => sq eI r) (fun r => [])) (Func.reg Tryz.f60 20) ⟨ofT [(1, .int .i64 a1), (2, .int .i64 a2), (7, .osl 7 eI.w 0 o7j17.length o7j17.length), (11, .str (rdE eS (rdE e_L x15 x17) x31b)), (13, .int .i64 x13j20), (15, sq e_L x15), (16, .int .i64 x16), (17, .int .i64 x17), (29, sq eS (rdE e_L x15 x17)), (30, .int .i64 ((rdE e_L x15 x17).length : Int)), (31, .int .i64 x31b), (44, .int .i64 ((rdE eS (rdE e_L x15 x17) x31b).size : Int)), (45, .int .i64 x45c)], ofL [(7, bufE eI o7j17)]⟩ (key_lengths.j20 k a1 a2 x15 x16 x17 x31b x45c o7j17 x13j20)) ∧ (∀ (a1 : Int) (a2 : Int) (x15 : List (List ByteArray)) (x16 : Int) (x17 : Int) (x31b : Int) (x45c : Int) (o7j17 : List Int), RS (fam Tryz.f60 [7, 12, 17, 20] [] [] (fun r : (List Int) => sq eI r) (fun r => [])) (Func.reg Tryz.f60 17) ⟨ofT [(1, .int .i64 a1), (2, .int .i64 a2), (7, .osl 7 eI.w 0 o7j17.length o7j17.length), (11, .str (rdE eS (rdE e_L x15 x17) x31b)), (12, .int .i64 x45c), (15, sq e_L x15), (16, .int .i64 x16), (17, .int .i64 x17), (29, sq eS (rdE e_L x15 x17)), (30, .int .i64 ((rdE e_L x15 x17).length : Int)), (31, .int .i64 x31b), (44, .int .i64 ((rdE eS (rdE e_L x15 x17) x31b).size : Int)), (45, .int .i64 x45c)], ofL [(7, bufE eI o7j17)]⟩ (key_lengths.j17 k a1 a2 x15 x16 x17 x31b x45c o7j17)) ∧ (∀ (a1 : Int) (a2 : Int) (x15 : List (List ByteArray)) (x16 : Int) (x17 : Int) (x31b : Int) (x45c : Int) (o7c : List Int), RS (fam Tryz.f60 [7, 12, 17, 20] [] [] (fun r : (List Int) => sq eI r) (fun r => [])) (Func.head Tryz.f60 2) ⟨ofT [(1, .int .i64 a1), (2, .int .i64 a2), (7, .osl 7 eI.w 0 o7c.length o7c.length), (11, .str (rdE eS (rdE e_L x15 x17) x31b)), (15, sq e_L x15), (16, .int .i64 x16), (17, .int .i64 x17), (29, sq eS (rdE e_L x15 x17)), (30, .int .i64 ((rdE e_L x15 x17).length : Int)), (31, .int .i64 x31b), (44, .int .i64 ((rdE eS (rdE e_L x15 x17) x31b).size : Int)), (45, .int .i64 x45c)], ofL [(7, bufE eI o7c)]⟩ (key_lengths.l2 k a1 a2 x15 x16 x17 x31b x45c o7c)) ∧ (∀ (a1 : Int) (a2 : Int) (x15 : List (List ByteArray)) (x16 : Int) (x17 : Int) (x31b : Int) (o7j12 : List Int), RS (fam Tryz.f60 [7, 12, 17, 20] [] [] (fun r : (List Int) => sq eI r) (fun r => [])) (Func.reg Tryz.f60 12) ⟨ofT [(1, .int .i64 a1), (2, .int .i64 a2), (7, .osl 7 eI.w 0 o7j12.length o7j12.length), (11, .str (rdE eS (rdE e_L x15 x17) x31b)), (15, sq e_L x15), (16, .int .i64 x16), (17, .int .i64 x17), (29, sq eS (rdE e_L x15 x17)), (30, .int .i64 ((rdE e_L x15 x17).length : Int)), (31, .int .i64 x31b)], ofL [(7, bufE eI o7j12)]⟩ (key_lengths.j12 k a1 a2 x15 x16 x17 x31b o7j12)) ∧ (∀ (a1 : Int) (a2 : Int) (x15 : List (List ByteArray)) (x16 : Int) (x17 : Int) (x31b : Int) (o7b : List Int), RS (fam Tryz.f60 [7, 12, 17, 20] [] [] (fun r : (List Int) => sq eI r) (fun r => [])) (Func.head Tryz.f60 1) ⟨ofT [(1, .int .i64 a1), (2, .int .i64 a2), (7, .osl 7 eI.w 0 o7b.length o7b.length), (15, sq e_L x15), (16, .int .i64 x16), (17, .int .i64 x17), (29, sq eS (rdE e_L x15 x17)), (30, .int .i64 ((rdE e_L x15 x17).length : Int)), (31, .int .i64 x31b)], ofL [(7, bufE eI o7b)]⟩ (key_lengths.l1 k a1 a2 x15 x16 x17 x31b o7b)) ∧ (∀ (a1 : Int) (a2 : Int) (x15 : List (List ByteArray)) (x16 : Int) (x17 : Int) (o7j7 : List Int), RS (fam Tryz.f60 [7, 12, 17, 20] [] [] (fun r : (List Int) => sq eI r) (fun r => [])) (Func.reg Tryz.f60 7) ⟨ofT [(1, .int .i64 a1), (2, .int .i64 a2), (7, .osl 7 eI.w 0 o7j7.length o7j7.length), (9, sq eS (rdE e_L x15 x17)), (15, sq e_L x15), (16, .int .i64 x16), (17, .int .i64 x17)], ofL [(7, bufE eI o7j7)]⟩ (key_lengths.j7 k a1 a2 x15 x16 x17 o7j7)) ∧ (∀ (a1 : Int) (a2 : Int) (x15 : List (List ByteArray)) (x16 : Int) (x17 : Int) (o7 : List Int), RS (fam Tryz.f60 [7, 12, 17, 20] [] [] (fun r : (List Int) => sq eI r) (fun r => [])) (Func.head Tryz.f60 0) ⟨ofT [(1, .int .i64 a1), (2, .int .i64 a2), (7, .osl 7 eI.w 0 o7.length o7.length), (15, sq e_L x15), (16, .int .i64 x16), (17, .int .i64 x17)], ofL [(7, bufE eI o7)]⟩ (key_lengths.l0 k a1 a2 x15 x16 x17 o7))
  | 0 => ⟨by intro _ _ _ _ _ _ _ _ _; simp only [key_lengths.j20]; exact RS.none, by intro _ _ _ _ _ _ _ _; simp only [key_lengths.j17]; exact RS.none, by intro _ _ _ _ _ _ _ _; simp only [key_lengths.l2]; exact RS.none, by intro _ _ _ _ _ _ _; simp only [key_lengths.j12]; exact RS.none, by intro _ _ _ _ _ _ _; simp only [key_lengths.l1]; exact RS.none, by intro _ _ _ _ _ _; simp only [key_lengths.j7]; exact RS.none, by intro _ _ _ _ _ _; simp only [key_lengths.l0]; exact RS.none⟩
  | k + 1 => by
    have ih := key_lengths.loops k
    refine ⟨?_, ?_, ?_, ?_, ?_, ?_, ?_⟩
    · intro a1 a2 x15 x16 x17 x31b x45c o7j17 x13j20
      simp only [key_lengths.j20]
      refine RS.region ?_
      refine RS.go ?_
      refine RT.goto rfl ?_
      refine RS.slot 63 (sq eI [x13j20]) (Le.lit (E := eI) (l := [x13j20]) (cells_of rfl)) ?_
      refine RS.go ?_
      refine RT.req rfl ⟨by first | rfl | simp, by first | exact Nat.le_refl _ | simp⟩ ?_
      refine RT.not rfl (by simp <;> omega) ?_
      refine RT.br rfl (fun c8 => ?_) (fun _ => RT.none)
      refine RT.goto rfl ?_
      refine RS.obj 7 (bufE eI (o7j17 ++ [x13j20])) ⟨_, rfl, LeO.app (l := o7j17) (m := [x13j20]) fun _ _ _ _ => rfl⟩ ?_
      refine RS.slot 64 (.osl 7 eI.w 0 (o7j17 ++ [x13j20]).length (o7j17 ++ [x13j20]).length) (by first | exact Le.oslN rfl (by simp) | exact Le.trans (y := .osl 7 eI.w 0 (o7j17.length + 1) (o7j17.length + 1)) (Le.refl _) (Le.oslN rfl (by simp))) ?_
      refine RS.go ?_
      refine RT.goto rfl ?_
      refine RS.weak [(1, .int .i64 a1), (2, .int .i64 a2), (7, .osl 7 eI.w 0 (o7j17 ++ [x13j20]).length (o7j17 ++ [x13j20]).length), (11, .str (rdE eS (rdE e_L x15 x17) x31b)), (15, sq e_L x15), (16, .int .i64 x16), (17, .int .i64 x17), (29, sq eS (rdE e_L x15 x17)), (30, .int .i64 ((rdE e_L x15 x17).length : Int)), (31, .int .i64 x31b), (44, .int .i64 ((rdE eS (rdE e_L x15 x17) x31b).size : Int)), (45, .int .i64 (wrap64 (x45c + 1)))] [(7, bufE eI (o7j17 ++ [x13j20]))] ⟨Le.eq (by first | rfl | simp), Le.eq (by first | rfl | simp), (by first | exact Le.oslN rfl (by first | rfl | simp) | exact Le.refl _ | exact Le.eq (by first | rfl | simp)), Le.eq (by first | rfl | simp), Le.eq (by first | rfl | simp), Le.eq (by first | rfl | simp), Le.eq (by first | rfl | simp), Le.eq (by first | rfl | simp), Le.eq (by first | rfl | simp), Le.eq (by first | rfl | simp), Le.eq (by first | rfl | simp), Le.eq (by first | rfl | simp), trivial⟩ ⟨⟨_, rfl, LeO.refl _⟩, trivial⟩ rfl (dom0 rfl) ?_
      exact ih.2.2.1 a1 a2 x15 x16 x17 x31b (wrap64 (x45c + 1)) (o7j17 ++ [x13j20]) 
    · intro a1 a2 x15 x16 x17 x31b x45c o7j17
      simp only [key_lengths.j17]
      refine RS.region ?_
      refine RS.go ?_
      refine RT.br rfl (fun c6 => ?_) (fun c6 => RT.none)
      refine RT.br rfl (fun c7 => ?_) (fun c7 => RT.none)
      refine RT.br rfl (fun c9 => ?_) (fun c9 => ?_)
      · refine RT.goto rfl ?_
        refine RS.weak [(1, .int .i64 a1), (2, .int .i64 a2), (7, .osl 7 eI.w 0 o7j17.length o7j17.length), (11, .str (rdE eS (rdE e_L x15 x17) x31b)), (13, .int .i64 (wrap64 (a1 * 3))), (15, sq e_L x15), (16, .int .i64 x16), (17, .int .i64 x17), (29, sq eS (rdE e_L x15 x17)), (30, .int .i64 ((rdE e_L x15 x17).length : Int)), (31, .int .i64 x31b), (44, .int .i64 ((rdE eS (rdE e_L x15 x17) x31b).size : Int)), (45, .int .i64 x45c)] [(7, bufE eI o7j17)] ⟨Le.eq (by first | rfl | simp), Le.eq (by first | rfl | simp), (by first | exact Le.oslN rfl (by first | rfl | simp) | exact Le.refl _ | exact Le.eq (by first | rfl | simp)), Le.eq (by first | rfl | simp), Le.eq (by first | rfl | simp), Le.eq (by first | rfl | simp), Le.eq (by first | rfl | simp), Le.eq (by first | rfl | simp), Le.eq (by first | rfl | simp), Le.eq (by first | rfl | simp), Le.eq (by first | rfl | simp), Le.eq (by first | rfl | simp), Le.eq (by first | rfl | simp), trivial⟩ ⟨⟨_, rfl, LeO.refl _⟩, trivial⟩ rfl (dom0 rfl) ?_
        exact ih.1 a1 a2 x15 x16 x17 x31b x45c o7j17 (wrap64 (a1 * 3)) 
      · refine RT.goto rfl ?_
        refine RS.weak [(1, .int .i64 a1), (2, .int .i64 a2), (7, .osl 7 eI.w 0 o7j17.length o7j17.length), (11, .str (rdE eS (rdE e_L x15 x17) x31b)), (13, .int .i64 a1), (15, sq e_L x15), (16, .int .i64 x16), (17, .int .i64 x17), (29, sq eS (rdE e_L x15 x17)), (30, .int .i64 ((rdE e_L x15 x17).length : Int)), (31, .int .i64 x31b), (44, .int .i64 ((rdE eS (rdE e_L x15 x17) x31b).size : Int)), (45, .int .i64 x45c)] [(7, bufE eI o7j17)] ⟨Le.eq (by first | rfl | simp), Le.eq (by first | rfl | simp), (by first | exact Le.oslN rfl (by first | rfl | simp) | exact Le.refl _ | exact Le.eq (by first | rfl | simp)), Le.eq (by first | rfl | simp), Le.eq (by first | rfl | simp), Le.eq (by first | rfl | simp), Le.eq (by first | rfl | simp), Le.eq (by first | rfl | simp), Le.eq (by first | rfl | simp), Le.eq (by first | rfl | simp), Le.eq (by first | rfl | simp), Le.eq (by first | rfl | simp), Le.eq (by first | rfl | simp), trivial⟩ ⟨⟨_, rfl, LeO.refl _⟩, trivial⟩ rfl (dom0 rfl) ?_
        exact ih.1 a1 a2 x15 x16 x17 x31b x45c o7j17 a1 
    · intro a1 a2 x15 x16 x17 x31b x45c o7c
      simp only [key_lengths.l2]
      refine RS.go ?_
      refine RT.br rfl (fun c12 => ?_) (fun c12 => ?_)
      · refine RT.br rfl (fun c11 => ?_) (fun c11 => ?_)
        · refine RT.goto rfl ?_
          refine RS.slot 52 (sq eI [a1]) (Le.lit (E := eI) (l := [a1]) (cells_of rfl)) ?_
          refine RS.go ?_
          refine RT.req rfl ⟨by first | rfl | simp, by first | exact Nat.le_refl _ | simp⟩ ?_
          refine RT.not rfl (by simp <;> omega) ?_
          refine RT.br rfl (fun c10 => ?_) (fun _ => RT.none)
          refine RT.goto rfl ?_
          refine RS.obj 7 (bufE eI (o7c ++ [a1])) ⟨_, rfl, LeO.app (l := o7c) (m := [a1]) fun _ _ _ _ => rfl⟩ ?_
          refine RS.slot 53 (.osl 7 eI.w 0 (o7c ++ [a1]).length (o7c ++ [a1]).length) (by first | exact Le.oslN rfl (by simp) | exact Le.trans (y := .osl 7 eI.w 0 (o7c.length + 1) (o7c.length + 1)) (Le.refl _) (Le.oslN rfl (by simp))) ?_
          refine RS.go ?_
          refine RT.goto rfl ?_
          refine RS.weak [(1, .int .i64 a1), (2, .int .i64 a2), (7, .osl 7 eI.w 0 (o7c ++ [a1]).length (o7c ++ [a1]).length), (11, .str (rdE eS (rdE e_L x15 x17) x31b)), (12, .int .i64 x45c), (15, sq e_L x15), (16, .int .i64 x16), (17, .int .i64 x17), (29, sq eS (rdE e_L x15 x17)), (30, .int .i64 ((rdE e_L x15 x17).length : Int)), (31, .int .i64 x31b), (44, .int .i64 ((rdE eS (rdE e_L x15 x17) x31b).size : Int)), (45, .int .i64 x45c)] [(7, bufE eI (o7c ++ [a1]))] ⟨Le.eq (by first | rfl | simp), Le.eq (by first | rfl | simp), (by first | exact Le.oslN rfl (by first | rfl | simp) | exact Le.refl _ | exact Le.eq (by first | rfl | simp)), Le.eq (by first | rfl | simp), Le.eq (by first | rfl | simp), Le.eq (by first | rfl | simp), Le.eq (by first | rfl | simp), Le.eq (by first | rfl | simp), Le.eq (by first | rfl | simp), Le.eq (by first | rfl | simp), Le.eq (by first | rfl | simp), Le.eq (by first | rfl | simp), Le.eq (by first | rfl | simp), trivial⟩ ⟨⟨_, rfl, LeO.refl _⟩, trivial⟩ rfl (dom0 rfl) ?_
          exact ih.2.1 a1 a2 x15 x16 x17 x31b x45c (o7c ++ [a1]) 
        · refine RT.goto rfl ?_
          refine RS.weak [(1, .int .i64 a1), (2, .int .i64 a2), (7, .osl 7 eI.w 0 o7c.length o7c.length), (11, .str (rdE eS (rdE e_L x15 x17) x31b)), (12, .int .i64 x45c), (15, sq e_L x15), (16, .int .i64 x16), (17, .int .i64 x17), (29, sq eS (rdE e_L x15 x17)), (30, .int .i64 ((rdE e_L x15 x17).length : Int)), (31, .int .i64 x31b), (44, .int .i64 ((rdE eS (rdE e_L x15 x17) x31b).size : Int)), (45, .int .i64 x45c)] [(7, bufE eI o7c)] ⟨Le.eq (by first | rfl | simp), Le.eq (by first | rfl | simp), (by first | exact Le.oslN rfl (by first | rfl | simp) | exact Le.refl _ | exact Le.eq (by first | rfl | simp)), Le.eq (by first | rfl | simp), Le.eq (by first | rfl | simp), Le.eq (by first | rfl | simp), Le.eq (by first | rfl | simp), Le.eq (by first | rfl | simp), Le.eq (by first | rfl | simp), Le.eq (by first | rfl | simp), Le.eq (by first | rfl | simp), Le.eq (by first | rfl | simp), Le.eq (by first | rfl | simp), trivial⟩ ⟨⟨_, rfl, LeO.refl _⟩, trivial⟩ rfl (dom0 rfl) ?_
          exact ih.2.1 a1 a2 x15 x16 x17 x31b x45c o7c 
      · refine RT.goto rfl ?_
        refine RS.weak [(1, .int .i64 a1), (2, .int .i64 a2), (7, .osl 7 eI.w 0 o7c.length o7c.length), (15, sq e_L x15), (16, .int .i64 x16), (17, .int .i64 x17), (29, sq eS (rdE e_L x15 x17)), (30, .int .i64 ((rdE e_L x15 x17).length : Int)), (31, .int .i64 (wrap64 (x31b + 1)))] [(7, bufE eI o7c)] ⟨Le.eq (by first | rfl | simp), Le.eq (by first | rfl | simp), (by first | exact Le.oslN rfl (by first | rfl | simp) | exact Le.refl _ | exact Le.eq (by first | rfl | simp)), Le.eq (by first | rfl | simp), Le.eq (by first | rfl | simp), Le.eq (by first | rfl | simp), Le.eq (by first | rfl | simp), Le.eq (by first | rfl | simp), Le.eq (by first | rfl | simp), trivial⟩ ⟨⟨_, rfl, LeO.refl _⟩, trivial⟩ rfl (dom0 rfl) ?_
        exact ih.2.2.2.2.1 a1 a2 x15 x16 x17 (wrap64 (x31b + 1)) o7c 
    · intro a1 a2 x15 x16 x17 x31b o7j12
      simp only [key_lengths.j12]
      refine RS.region ?_
      refine RS.go ?_
      refine RT.goto rfl ?_
      refine RS.weak [(1, .int .i64 a1), (2, .int .i64 a2), (7, .osl 7 eI.w 0 o7j12.length o7j12.length), (11, .str (rdE eS (rdE e_L x15 x17) x31b)), (15, sq e_L x15), (16, .int .i64 x16), (17, .int .i64 x17), (29, sq eS (rdE e_L x15 x17)), (30, .int .i64 ((rdE e_L x15 x17).length : Int)), (31, .int .i64 x31b), (44, .int .i64 ((rdE eS (rdE e_L x15 x17) x31b).size : Int)), (45, .int .i64 0)] [(7, bufE eI o7j12)] ⟨Le.eq (by first | rfl | simp), Le.eq (by first | rfl | simp), (by first | exact Le.oslN rfl (by first | rfl | simp) | exact Le.refl _ | exact Le.eq (by first | rfl | simp)), Le.eq (by first | rfl | simp), Le.eq (by first | rfl | simp), Le.eq (by first | rfl | simp), Le.eq (by first | rfl | simp), Le.eq (by first | rfl | simp), Le.eq (by first | rfl | simp), Le.eq (by first | rfl | simp), Le.eq (by first | rfl | simp), Le.eq (by first | rfl | simp), trivial⟩ ⟨⟨_, rfl, LeO.refl _⟩, trivial⟩ rfl (dom0 rfl) ?_
      exact ih.2.2.1 a1 a2 x15 x16 x17 x31b 0 o7j12 
    · intro a1 a2 x15 x16 x17 x31b o7b
      simp only [key_lengths.l1]
      refine RS.go ?_
      refine RT.br rfl (fun c15 => ?_) (fun c15 => ?_)
      · refine RT.br rfl (fun c4 => ?_) (fun c4 => RT.none)
        refine RT.br rfl (fun c5 => ?_) (fun c5 => RT.none)
        refine RT.br rfl (fun c14 => ?_) (fun c14 => ?_)
        · refine RT.goto rfl ?_
          refine RS.slot 41 (sq eI [wrap64 (3 * a2)]) (Le.lit (E := eI) (l := [wrap64 (3 * a2)]) (cells_of rfl)) ?_
          refine RS.go ?_
          refine RT.req rfl ⟨by first | rfl | simp, by first | exact Nat.le_refl _ | simp⟩ ?_
          refine RT.not rfl (by simp <;> omega) ?_
          refine RT.br rfl (fun c13 => ?_) (fun _ => RT.none)
          refine RT.goto rfl ?_
          refine RS.obj 7 (bufE eI (o7b ++ [wrap64 (3 * a2)])) ⟨_, rfl, LeO.app (l := o7b) (m := [wrap64 (3 * a2)]) fun _ _ _ _ => rfl⟩ ?_
          refine RS.slot 42 (.osl 7 eI.w 0 (o7b ++ [wrap64 (3 * a2)]).length (o7b ++ [wrap64 (3 * a2)]).length) (by first | exact Le.oslN rfl (by simp) | exact Le.trans (y := .osl 7 eI.w 0 (o7b.length + 1) (o7b.length + 1)) (Le.refl _) (Le.oslN rfl (by simp))) ?_
          refine RS.go ?_
          refine RT.goto rfl ?_
          refine RS.weak [(1, .int .i64 a1), (2, .int .i64 a2), (7, .osl 7 eI.w 0 (o7b ++ [wrap64 (3 * a2)]).length (o7b ++ [wrap64 (3 * a2)]).length), (11, .str (rdE eS (rdE e_L x15 x17) x31b)), (15, sq e_L x15), (16, .int .i64 x16), (17, .int .i64 x17), (29, sq eS (rdE e_L x15 x17)), (30, .int .i64 ((rdE e_L x15 x17).length : Int)), (31, .int .i64 x31b)] [(7, bufE eI (o7b ++ [wrap64 (3 * a2)]))] ⟨Le.eq (by first | rfl | simp), Le.eq (by first | rfl | simp), (by first | exact Le.oslN rfl (by first | rfl | simp) | exact Le.refl _ | exact Le.eq (by first | rfl | simp)), Le.eq (by first | rfl | simp), Le.eq (by first | rfl | simp), Le.eq (by first | rfl | simp), Le.eq (by first | rfl | simp), Le.eq (by first | rfl | simp), Le.eq (by first | rfl | simp), Le.eq (by first | rfl | simp), trivial⟩ ⟨⟨_, rfl, LeO.refl _⟩, trivial⟩ rfl (dom0 rfl) ?_
          exact ih.2.2.2.1 a1 a2 x15 x16 x17 x31b (o7b ++ [wrap64 (3 * a2)]) 
        · refine RT.goto rfl ?_
          refine RS.weak [(1, .int .i64 a1), (2, .int .i64 a2), (7, .osl 7 eI.w 0 o7b.length o7b.length), (11, .str (rdE eS (rdE e_L x15 x17) x31b)), (15, sq e_L x15), (16, .int .i64 x16), (17, .int .i64 x17), (29, sq eS (rdE e_L x15 x17)), (30, .int .i64 ((rdE e_L x15 x17).length : Int)), (31, .int .i64 x31b)] [(7, bufE eI o7b)] ⟨Le.eq (by first | rfl | simp), Le.eq (by first | rfl | simp), (by first | exact Le.oslN rfl (by first | rfl | simp) | exact Le.refl _ | exact Le.eq (by first | rfl | simp)), Le.eq (by first | rfl | simp), Le.eq (by first | rfl | simp), Le.eq (by first | rfl | simp), Le.eq (by first | rfl | simp), Le.eq (by first | rfl | simp), Le.eq (by first | rfl | simp), Le.eq (by first | rfl | simp), trivial⟩ ⟨⟨_, rfl, LeO.refl _⟩, trivial⟩ rfl (dom0 rfl) ?_
          exact ih.2.2.2.1 a1 a2 x15 x16 x17 x31b o7b 
      · refine RT.goto rfl ?_
        refine RS.weak [(1, .int .i64 a1), (2, .int .i64 a2), (7, .osl 7 eI.w 0 o7b.length o7b.length), (15, sq e_L x15), (16, .int .i64 x16), (17, .int .i64 (wrap64 (x17 + 1)))] [(7, bufE eI o7b)] ⟨Le.eq (by first | rfl | simp), Le.eq (by first | rfl | simp), (by first | exact Le.oslN rfl (by first | rfl | simp) | exact Le.refl _ | exact Le.eq (by first | rfl | simp)), Le.eq (by first | rfl | simp), Le.eq (by first | rfl | simp), Le.eq (by first | rfl | simp), trivial⟩ ⟨⟨_, rfl, LeO.refl _⟩, trivial⟩ rfl (dom0 rfl) ?_
        exact ih.2.2.2.2.2.2 a1 a2 x15 x16 (wrap64 (x17 + 1)) o7b 
    · intro a1 a2 x15 x16 x17 o7j7
      simp only [key_lengths.j7]
      refine RS.region ?_
      refine RS.go ?_
      refine RT.goto rfl ?_
      refine RS.weak [(1, .int .i64 a1), (2, .int .i64 a2), (7, .osl 7 eI.w 0 o7j7.length o7j7.length), (15, sq e_L x15), (16, .int .i64 x16), (17, .int .i64 x17), (29, sq eS (rdE e_L x15 x17)), (30, .int .i64 ((rdE e_L x15 x17).length : Int)), (31, .int .i64 0)] [(7, bufE eI o7j7)] ⟨Le.eq (by first | rfl | simp), Le.eq (by first | rfl | simp), (by first | exact Le.oslN rfl (by first | rfl | simp) | exact Le.refl _ | exact Le.eq (by first | rfl | simp)), Le.eq (by first | rfl | simp), Le.eq (by first | rfl | simp), Le.eq (by first | rfl | simp), Le.eq (by first | rfl | simp), Le.eq (by first | rfl | simp), Le.eq (by first | rfl | simp), trivial⟩ ⟨⟨_, rfl, LeO.refl _⟩, trivial⟩ rfl (dom0 rfl) ?_
      exact ih.2.2.2.2.1 a1 a2 x15 x16 x17 0 o7j7 
    · intro a1 a2 x15 x16 x17 o7
      simp only [key_lengths.l0]
      refine RS.go ?_
      refine RT.br rfl (fun c18 => ?_) (fun c18 => ?_)
      · refine RT.br rfl (fun c2 => ?_) (fun c2 => RT.none)
        refine RT.br rfl (fun c3 => ?_) (fun c3 => RT.none)
        refine RT.br rfl (fun c17 => ?_) (fun c17 => ?_)
        · refine RT.goto rfl ?_
          refine RS.slot 27 (sq eI [wrap64 (7 * a2)]) (Le.lit (E := eI) (l := [wrap64 (7 * a2)]) (cells_of rfl)) ?_
          refine RS.go ?_
          refine RT.req rfl ⟨by first | rfl | simp, by first | exact Nat.le_refl _ | simp⟩ ?_
          refine RT.not rfl (by simp <;> omega) ?_
          refine RT.br rfl (fun c16 => ?_) (fun _ => RT.none)
          refine RT.goto rfl ?_
          refine RS.obj 7 (bufE eI (o7 ++ [wrap64 (7 * a2)])) ⟨_, rfl, LeO.app (l := o7) (m := [wrap64 (7 * a2)]) fun _ _ _ _ => rfl⟩ ?_
          refine RS.slot 28 (.osl 7 eI.w 0 (o7 ++ [wrap64 (7 * a2)]).length (o7 ++ [wrap64 (7 * a2)]).length) (by first | exact Le.oslN rfl (by simp) | exact Le.trans (y := .osl 7 eI.w 0 (o7.length + 1) (o7.length + 1)) (Le.refl _) (Le.oslN rfl (by simp))) ?_
          refine RS.go ?_
          refine RT.goto rfl ?_
          refine RS.weak [(1, .int .i64 a1), (2, .int .i64 a2), (7, .osl 7 eI.w 0 (o7 ++ [wrap64 (7 * a2)]).length (o7 ++ [wrap64 (7 * a2)]).length), (9, sq eS (rdE e_L x15 x17)), (15, sq e_L x15), (16, .int .i64 x16), (17, .int .i64 x17)] [(7, bufE eI (o7 ++ [wrap64 (7 * a2)]))] ⟨Le.eq (by first | rfl | simp), Le.eq (by first | rfl | simp), (by first | exact Le.oslN rfl (by first | rfl | simp) | exact Le.refl _ | exact Le.eq (by first | rfl | simp)), Le.eq (by first | rfl | simp), Le.eq (by first | rfl | simp), Le.eq (by first | rfl | simp), Le.eq (by first | rfl | simp), trivial⟩ ⟨⟨_, rfl, LeO.refl _⟩, trivial⟩ rfl (dom0 rfl) ?_
          exact ih.2.2.2.2.2.1 a1 a2 x15 x16 x17 (o7 ++ [wrap64 (7 * a2)]) 
        · refine RT.goto rfl ?_
          refine RS.weak [(1, .int .i64 a1), (2, .int .i64 a2), (7, .osl 7 eI.w 0 o7.length o7.length), (9, sq eS (rdE e_L x15 x17)), (15, sq e_L x15), (16, .int .i64 x16), (17, .int .i64 x17)] [(7, bufE eI o7)] ⟨Le.eq (by first | rfl | simp), Le.eq (by first | rfl | simp), (by first | exact Le.oslN rfl (by first | rfl | simp) | exact Le.refl _ | exact Le.eq (by first | rfl | simp)), Le.eq (by first | rfl | simp), Le.eq (by first | rfl | simp), Le.eq (by first | rfl | simp), Le.eq (by first | rfl | simp), trivial⟩ ⟨⟨_, rfl, LeO.refl _⟩, trivial⟩ rfl (dom0 rfl) ?_
          exact ih.2.2.2.2.2.1 a1 a2 x15 x16 x17 o7 
      · refine RT.freeze 7 _ _ _ [(6, sq eI o7)] [] rfl rfl ⟨.inr ⟨_, rfl, by first | exact Nat.le_refl _ | simp, rfl⟩, trivial⟩ trivial rfl (dom0 rfl) ?_
        exact RT.done rfl rfl (Le.refl _) trivial rfl (dom0 rfl)
theorem key_lengths.ok (k : Nat) (a0 : ByteArray) (a1 : Int) (a2 : Int) (r : (List Int)) (h : key_lengths.f k a0 a1 a2 = some r) : Ct Tryz.prog B 60 [.str a0, .int .i64 a1, .int .i64 a2] (ofL []) (sq eI r) (ofL []) := by
  refine Ct.of (Y := (fam Tryz.f60 [7, 12, 17, 20] [] [] (fun r : (List Int) => sq eI r) (fun r => []))) Tryz.func60 rfl Tryz.call60 rfl rfl ?_ r h
  unfold key_lengths.f
  refine RS.go ?_
  refine RT.call0 rfl (fun _ h => key_words.ok k a0 _ h) (LeL.eq rfl) (fun _ => rfl) (fun r1 => ?_)
  refine RS.go ?_
  refine RT.goto rfl ?_
  refine RS.ghost 7 7 eI.w (rep eI []) rfl rfl ?_
  refine RS.weak [(1, .int .i64 a1), (2, .int .i64 a2), (7, .osl 7 eI.w 0 ([] : List Int).length ([] : List Int).length), (15, sq e_L r1), (16, .int .i64 (r1.length : Int)), (17, .int .i64 0)] [(7, bufE eI ([] : List Int))] ⟨Le.eq (by first | rfl | simp), Le.eq (by first | rfl | simp), (by first | exact Le.oslN rfl (by first | rfl | simp) | exact Le.refl _ | exact Le.eq (by first | rfl | simp)), Le.eq (by first | rfl | simp), Le.eq (by first | rfl | simp), Le.eq (by first | rfl | simp), trivial⟩ ⟨⟨_, rfl, LeO.refl _⟩, trivial⟩ rfl (dom0 rfl) ?_
  exact (key_lengths.loops k).2.2.2.2.2.2 a1 a2 r1 (r1.length : Int) 0 [] 
/-! ### key_Units: function 29 -/
def key_Units.l0 : Nat → Int → List Int → Int → Int → Option (Int × Int)
  | 0, _, _, _, _ => Option.none
  | k + 1, x5, x14, x15, x16 => (if x16 < x15 then (if 0 ≤ x16 then (if x16 < (x14.length : Int) then key_Units.l0 k (wrap64 (x5 + (rd x14 x16))) x14 x15 (wrap64 (x16 + 1)) else Option.none) else Option.none) else Option.some (x5, 0))
def key_Units.f (k : Nat) (a0 : ByteArray) : Option (Int × Int) := ((key_CheckSaid.f k a0).bind fun r1 => (if r1 = 0 then ((key_lengths.f k a0 1 1).bind fun r2 => key_Units.l0 k 0 r2 (r2.length : Int) 0) else Option.some (0, r1)))
theorem key_Units.loops : ∀ k, (∀ (x5 : Int) (x14 : List Int) (x15 : Int) (x16 : Int), RS (fam Tryz.f29 [] [] [] (fun r : Int × Int => .tup [.int .i64 r.1, .int .i64 r.2]) (fun r => [])) (Func.head Tryz.f29 0) ⟨ofT [(5, .int .i64 x5), (14, sq eI x14), (15, .int .i64 x15), (16, .int .i64 x16)], ofL []⟩ (key_Units.l0 k x5 x14 x15 x16))
  | 0 => by intro _ _ _ _; simp only [key_Units.l0]; exact RS.none
  | k + 1 => by
    have ih := key_Units.loops k
    · intro x5 x14 x15 x16
      simp only [key_Units.l0]
      refine RS.go ?_
      refine RT.br rfl (fun c5 => ?_) (fun c5 => ?_)
      · refine RT.br rfl (fun c3 => ?_) (fun c3 => RT.none)
        refine RT.br rfl (fun c4 => ?_) (fun c4 => RT.none)
        refine RT.goto rfl ?_
        refine RS.weak [(5, .int .i64 (wrap64 (x5 + (rd x14 x16)))), (14, sq eI x14), (15, .int .i64 x15), (16, .int .i64 (wrap64 (x16 + 1)))] [] ⟨Le.eq (by first | rfl | simp), Le.eq (by first | rfl | simp), Le.eq (by first | rfl | simp), Le.eq (by first | rfl | simp), trivial⟩ trivial rfl (dom0 rfl) ?_
        exact ih (wrap64 (x5 + (rd x14 x16))) x14 x15 (wrap64 (x16 + 1)) 
      · exact RT.done rfl rfl (Le.tup (LeL.cons (Le.refl _) (LeL.cons (Le.refl _) (LeL.nil)))) trivial rfl (dom0 rfl)
theorem key_Units.ok (k : Nat) (a0 : ByteArray) (r : Int × Int) (h : key_Units.f k a0 = some r) : Ct Tryz.prog B 29 [.str a0] (ofL []) (.tup [.int .i64 r.1, .int .i64 r.2]) (ofL []) := by
  refine Ct.of (Y := (fam Tryz.f29 [] [] [] (fun r : Int × Int => .tup [.int .i64 r.1, .int .i64 r.2]) (fun r => []))) Tryz.func29 rfl Tryz.call29 rfl rfl ?_ r h
  unfold key_Units.f
  refine RS.go ?_
  refine RT.call0 rfl (fun _ h => key_CheckSaid.ok k a0 _ h) (LeL.eq rfl) (fun _ => rfl) (fun r1 => ?_)
  refine RS.go ?_
  refine RT.brN rfl (fun c6 => ?_) (fun c6 => ?_)
  · refine RT.call0 rfl (fun _ h => key_lengths.ok k a0 1 1 _ h) (LeL.eq rfl) (fun _ => rfl) (fun r2 => ?_)
    refine RS.go ?_
    refine RT.goto rfl ?_
    refine RS.weak [(5, .int .i64 0), (14, sq eI r2), (15, .int .i64 (r2.length : Int)), (16, .int .i64 0)] [] ⟨Le.eq (by first | rfl | simp), Le.eq (by first | rfl | simp), Le.eq (by first | rfl | simp), Le.eq (by first | rfl | simp), trivial⟩ trivial rfl (dom0 rfl) ?_
    exact key_Units.loops k 0 r2 (r2.length : Int) 0 
  · exact RT.done rfl rfl (Le.tup (LeL.cons (Le.refl _) (LeL.cons (Le.refl _) (LeL.nil)))) trivial rfl (dom0 rfl)
/-! ### kit_IsTime: function 38 -/
def kit_IsTime.f (a0_0 : Int) (a0_1 : Int) : Option (Bool) := (if a0_0 ≥ 0 then (if a0_0 < a0_1 then Option.some (decide (a0_1 ≤ 345686400000)) else Option.some false) else Option.some false)
theorem kit_IsTime.ok (a0_0 : Int) (a0_1 : Int) (r : Bool) (h : kit_IsTime.f a0_0 a0_1 = some r) : Ct Tryz.prog B 38 [.agg [.int .i64 a0_0, .int .i64 a0_1]] (ofL []) (.bool r) (ofL []) := by
  refine Ct.of (Y := (fam Tryz.f38 [] [] [] (fun r : Bool => .bool r) (fun r => []))) Tryz.func38 rfl Tryz.call38 rfl rfl ?_ r h
  unfold kit_IsTime.f
  refine RS.go ?_
  refine RT.br rfl (fun c2 => ?_) (fun c2 => ?_)
  · refine RT.brT rfl ?_
    refine RT.brT rfl ?_
    refine RT.brT rfl ?_
    refine RT.brT rfl ?_
    refine RT.brT rfl ?_
    refine RT.br rfl (fun c1 => ?_) (fun c1 => ?_)
    · refine RT.brT rfl ?_
      refine RT.brT rfl ?_
      refine RT.brT rfl ?_
      exact RT.done rfl rfl (Le.refl _) trivial rfl (dom0 rfl)
    · refine RT.brF rfl ?_
      refine RT.brF rfl ?_
      refine RT.brF rfl ?_
      exact RT.done rfl rfl (Le.refl _) trivial rfl (dom0 rfl)
  · refine RT.brF rfl ?_
    refine RT.brF rfl ?_
    refine RT.brF rfl ?_
    refine RT.brF rfl ?_
    refine RT.brF rfl ?_
    refine RT.brF rfl ?_
    refine RT.brF rfl ?_
    refine RT.brF rfl ?_
    refine RT.brF rfl ?_
    exact RT.done rfl rfl (Le.refl _) trivial rfl (dom0 rfl)
/-! ### kit_Has: function 63 -/
def kit_Has.f (a0_0 : Int) (a0_1 : Int) (a1 : Int) : Option (Bool) := (if a0_0 ≤ a1 then Option.some (decide (a1 < a0_1)) else Option.some false)
theorem kit_Has.ok (a0_0 : Int) (a0_1 : Int) (a1 : Int) (r : Bool) (h : kit_Has.f a0_0 a0_1 a1 = some r) : Ct Tryz.prog B 63 [.agg [.int .i64 a0_0, .int .i64 a0_1], .int .i64 a1] (ofL []) (.bool r) (ofL []) := by
  refine Ct.of (Y := (fam Tryz.f63 [] [] [] (fun r : Bool => .bool r) (fun r => []))) Tryz.func63 rfl Tryz.call63 rfl rfl ?_ r h
  unfold kit_Has.f
  refine RS.go ?_
  refine RT.br rfl (fun c1 => ?_) (fun c1 => ?_)
  · refine RT.brT rfl ?_
    refine RT.brT rfl ?_
    refine RT.brT rfl ?_
    refine RT.brT rfl ?_
    exact RT.done rfl rfl (Le.refl _) trivial rfl (dom0 rfl)
  · refine RT.brF rfl ?_
    refine RT.brF rfl ?_
    refine RT.brF rfl ?_
    refine RT.brF rfl ?_
    exact RT.done rfl rfl (Le.refl _) trivial rfl (dom0 rfl)
/-! ### rate_CheckTimes: function 31 -/
def rate_CheckTimes.l0 : Nat → List Int → Int → Int → Int → Option (Int)
  | 0, _, _, _, _ => Option.none
  | k + 1, l0, a1_0, a1_1, x15 => (if x15 < (l0.length : Int) then (if 0 ≤ x15 then (if x15 < (l0.length : Int) then ((kit_Has.f a1_0 a1_1 (rd l0 x15)).bind fun r4 => (if r4 = true then (if x15 > 0 then (if 0 ≤ wrap64 (x15 - 1) then (if wrap64 (x15 - 1) < (l0.length : Int) then (if (rd l0 x15) < (rd l0 (wrap64 (x15 - 1))) then Option.some 7 else rate_CheckTimes.l0 k l0 a1_0 a1_1 (wrap64 (x15 + 1))) else Option.none) else Option.none) else rate_CheckTimes.l0 k l0 a1_0 a1_1 (wrap64 (x15 + 1))) else Option.some 1)) else Option.none) else Option.none) else Option.some 0)
def rate_CheckTimes.f (k : Nat) (l0 : List Int) (a1_0 : Int) (a1_1 : Int) : Option (Int) := ((kit_IsTime.f a1_0 a1_1).bind fun r1 => (if r1 = true then (if (l0.length : Int) > 2000 then Option.some 2 else rate_CheckTimes.l0 k l0 a1_0 a1_1 0) else Option.some 1))
theorem rate_CheckTimes.loops : ∀ k, (∀ (l0 : List Int) (a1_0 : Int) (a1_1 : Int) (x15 : Int), RS (fam Tryz.f31 [] [] [] (fun r : Int => .int .i64 r) (fun r => [])) (Func.head Tryz.f31 0) ⟨ofT [(0, sq eI l0), (3, .ref 3 0 0 0 2), (13, sq eI l0), (14, .int .i64 (l0.length : Int)), (15, .int .i64 x15)], ofL [(3, .box [.int .i64 a1_0, .int .i64 a1_1])]⟩ (rate_CheckTimes.l0 k l0 a1_0 a1_1 x15))
  | 0 => by intro _ _ _ _; simp only [rate_CheckTimes.l0]; exact RS.none
  | k + 1 => by
    have ih := rate_CheckTimes.loops k
    · intro l0 a1_0 a1_1 x15
      simp only [rate_CheckTimes.l0]
      refine RS.go ?_
      refine RT.br rfl (fun c10 => ?_) (fun c10 => ?_)
      · refine RT.br rfl (fun c2 => ?_) (fun c2 => RT.none)
        refine RT.br rfl (fun c3 => ?_) (fun c3 => RT.none)
        refine RT.call0 rfl (fun _ h => kit_Has.ok a1_0 a1_1 (rd l0 x15) _ h) (LeL.eq rfl) (fun _ => rfl) (fun r4 => ?_)
        refine RS.go ?_
        refine RT.brBN rfl (fun c9 => ?_) (fun c9 => ?_)
        · refine RT.br rfl (fun c8 => ?_) (fun c8 => ?_)
          · refine RT.brT rfl ?_
            refine RT.brT rfl ?_
            refine RT.brT rfl ?_
            refine RT.brT rfl ?_
            refine RT.br rfl (fun c5 => ?_) (fun c5 => RT.none)
            refine RT.br rfl (fun c6 => ?_) (fun c6 => RT.none)
            refine RT.brT rfl ?_
            refine RT.brT rfl ?_
            refine RT.brT rfl ?_
            refine RT.br rfl (fun c7 => ?_) (fun c7 => ?_)
            · exact RT.done rfl rfl (Le.refl _) trivial rfl (dom0 rfl)
            · refine RT.goto rfl ?_
              refine RS.weak [(0, sq eI l0), (3, .ref 3 0 0 0 2), (13, sq eI l0), (14, .int .i64 (l0.length : Int)), (15, .int .i64 (wrap64 (x15 + 1)))] [(3, .box [.int .i64 a1_0, .int .i64 a1_1])] ⟨Le.eq (by first | rfl | simp), Le.eq (by first | rfl | simp), Le.eq (by first | rfl | simp), Le.eq (by first | rfl | simp), Le.eq (by first | rfl | simp), trivial⟩ ⟨⟨_, rfl, LeO.refl _⟩, trivial⟩ rfl (dom0 rfl) ?_
              exact ih l0 a1_0 a1_1 (wrap64 (x15 + 1)) 
          · refine RT.brF rfl ?_
            refine RT.brF rfl ?_
            refine RT.brF rfl ?_
            refine RT.brF rfl ?_
            refine RT.brF rfl ?_
            refine RT.brF rfl ?_
            refine RT.brF rfl ?_
            refine RT.brF rfl ?_
            refine RT.goto rfl ?_
            refine RS.weak [(0, sq eI l0), (3, .ref 3 0 0 0 2), (13, sq eI l0), (14, .int .i64 (l0.length : Int)), (15, .int .i64 (wrap64 (x15 + 1)))] [(3, .box [.int .i64 a1_0, .int .i64 a1_1])] ⟨Le.eq (by first | rfl | simp), Le.eq (by first | rfl | simp), Le.eq (by first | rfl | simp), Le.eq (by first | rfl | simp), Le.eq (by first | rfl | simp), trivial⟩ ⟨⟨_, rfl, LeO.refl _⟩, trivial⟩ rfl (dom0 rfl) ?_
            exact ih l0 a1_0 a1_1 (wrap64 (x15 + 1)) 
        · exact RT.done rfl rfl (Le.refl _) trivial rfl (dom0 rfl)
      · exact RT.done rfl rfl (Le.refl _) trivial rfl (dom0 rfl)
theorem rate_CheckTimes.ok (k : Nat) (l0 : List Int) (a1_0 : Int) (a1_1 : Int) (r : Int) (h : rate_CheckTimes.f k l0 a1_0 a1_1 = some r) : Ct Tryz.prog B 31 [sq eI l0, .agg [.int .i64 a1_0, .int .i64 a1_1]] (ofL []) (.int .i64 r) (ofL []) := by
  refine Ct.of (Y := (fam Tryz.f31 [] [] [] (fun r : Int => .int .i64 r) (fun r => []))) Tryz.func31 rfl Tryz.call31 rfl rfl ?_ r h
  unfold rate_CheckTimes.f
  refine RS.go ?_
  refine RT.call0 rfl (fun _ h => kit_IsTime.ok a1_0 a1_1 _ h) (LeL.eq rfl) (fun _ => rfl) (fun r1 => ?_)
  refine RS.go ?_
  refine RT.brBN rfl (fun c12 => ?_) (fun c12 => ?_)
  · refine RT.br rfl (fun c11 => ?_) (fun c11 => ?_)
    · exact RT.done rfl rfl (Le.refl _) trivial rfl (dom0 rfl)
    · refine RT.goto rfl ?_
      refine RS.weak [(0, sq eI l0), (3, .ref 3 0 0 0 2), (13, sq eI l0), (14, .int .i64 (l0.length : Int)), (15, .int .i64 0)] [(3, .box [.int .i64 a1_0, .int .i64 a1_1])] ⟨Le.eq (by first | rfl | simp), Le.eq (by first | rfl | simp), Le.eq (by first | rfl | simp), Le.eq (by first | rfl | simp), Le.eq (by first | rfl | simp), trivial⟩ ⟨⟨_, rfl, LeO.refl _⟩, trivial⟩ rfl (dom0 rfl) ?_
      exact rate_CheckTimes.loops k l0 a1_0 a1_1 0 
  · exact RT.done rfl rfl (Le.refl _) trivial rfl (dom0 rfl)
/-! ### rate_isLong: function 61 -/
def rate_isLong.f (a0 : Int) : Option (Bool) := ((kit_Outside.f a0 60000 86400000).bind fun r1 => Option.some (!r1))
theorem rate_isLong.ok (a0 : Int) (r : Bool) (h : rate_isLong.f a0 = some r) : Ct Tryz.prog B 61 [.int .i64 a0] (ofL []) (.bool r) (ofL []) := by
  refine Ct.of (Y := (fam Tryz.f61 [] [] [] (fun r : Bool => .bool r) (fun r => []))) Tryz.func61 rfl Tryz.call61 rfl rfl ?_ r h
  unfold rate_isLong.f
  refine RS.go ?_
  refine RT.call0 rfl (fun _ h => kit_Outside.ok a0 60000 86400000 _ h) (LeL.eq rfl) (fun _ => rfl) (fun r1 => ?_)
  refine RS.go ?_
  exact RT.done rfl rfl (Le.refl _) trivial rfl (dom0 rfl)
/-! ### cmp_isNaN_int: function 127 -/
def cmp_isNaN_int.f (a0 : Int) : Option (Bool) := Option.some (!decide (a0 = a0))
theorem cmp_isNaN_int.ok (a0 : Int) (r : Bool) (h : cmp_isNaN_int.f a0 = some r) : Ct Tryz.prog B 127 [.int .i64 a0] (ofL []) (.bool r) (ofL []) := by
  refine Ct.of (Y := (fam Tryz.f127 [] [] [] (fun r : Bool => .bool r) (fun r => []))) Tryz.func127 rfl Tryz.call127 rfl rfl ?_ r h
  unfold cmp_isNaN_int.f
  refine RS.go ?_
  exact RT.done rfl rfl (Le.refl _) trivial rfl (dom0 rfl)
/-! ### cmp_Less_int: function 96 -/
def cmp_Less_int.f (a0 : Int) (a1 : Int) : Option (Bool) := ((cmp_isNaN_int.f a0).bind fun r1 => (if r1 = true then ((cmp_isNaN_int.f a1).bind fun r2 => (if r2 = true then Option.some (decide (a0 < a1)) else Option.some true)) else Option.some (decide (a0 < a1))))
theorem cmp_Less_int.ok (a0 : Int) (a1 : Int) (r : Bool) (h : cmp_Less_int.f a0 a1 = some r) : Ct Tryz.prog B 96 [.int .i64 a0, .int .i64 a1] (ofL []) (.bool r) (ofL []) := by
  refine Ct.of (Y := (fam Tryz.f96 [] [] [] (fun r : Bool => .bool r) (fun r => []))) Tryz.func96 rfl Tryz.call96 rfl rfl ?_ r h
  unfold cmp_Less_int.f
  refine RS.go ?_
  refine RT.call0 rfl (fun _ h => cmp_isNaN_int.ok a0 _ h) (LeL.eq rfl) (fun _ => rfl) (fun r1 => ?_)
  refine RS.go ?_
  refine RT.brB rfl (fun c4 => ?_) (fun c4 => ?_)
  · refine RT.brT rfl ?_
    refine RT.call0 rfl (fun _ h => cmp_isNaN_int.ok a1 _ h) (LeL.eq rfl) (fun _ => rfl) (fun r2 => ?_)
    refine RS.go ?_
    refine RT.brT rfl ?_
    refine RT.brT rfl ?_
    refine RT.brBN rfl (fun c3 => ?_) (fun c3 => ?_)
    · refine RT.brF rfl ?_
      refine RT.brF rfl ?_
      refine RT.brF rfl ?_
      exact RT.done rfl rfl (Le.refl _) trivial rfl (dom0 rfl)
    · refine RT.brT rfl ?_
      refine RT.brT rfl ?_
      refine RT.brT rfl ?_
      exact RT.done rfl rfl (Le.refl _) trivial rfl (dom0 rfl)
  · refine RT.brF rfl ?_
    refine RT.brF rfl ?_
    refine RT.brF rfl ?_
    refine RT.brF rfl ?_
    refine RT.brF rfl ?_
    refine RT.brF rfl ?_
    refine RT.brF rfl ?_
    exact RT.done rfl rfl (Le.refl _) trivial rfl (dom0 rfl)
/-! ### slices_isNaN_int: function 101 -/
def slices_isNaN_int.f (a0 : Int) : Option (Bool) := Option.some (!decide (a0 = a0))
theorem slices_isNaN_int.ok (a0 : Int) (r : Bool) (h : slices_isNaN_int.f a0 = some r) : Ct Tryz.prog B 101 [.int .i64 a0] (ofL []) (.bool r) (ofL []) := by
  refine Ct.of (Y := (fam Tryz.f101 [] [] [] (fun r : Bool => .bool r) (fun r => []))) Tryz.func101 rfl Tryz.call101 rfl rfl ?_ r h
  unfold slices_isNaN_int.f
  refine RS.go ?_
  exact RT.done rfl rfl (Le.refl _) trivial rfl (dom0 rfl)
/-! ### slices_BinarySearch_int_int: function 71 -/
def slices_BinarySearch_int_int.l0 : Nat → List Int → Int → Int → Int → Option (Int × Bool)
  | 0, _, _, _, _ => Option.none
  | k + 1, l0, a1, x7, x8 => (if x7 < x8 then (if 0 ≤ wrap64 (Int.fdiv (IntKind.u64.wrap (wrap64 (x7 + x8))) (2 ^ (min (Int.toNat 1) 64))) then (if wrap64 (Int.fdiv (IntKind.u64.wrap (wrap64 (x7 + x8))) (2 ^ (min (Int.toNat 1) 64))) < (l0.length : Int) then ((cmp_Less_int.f (rd l0 (wrap64 (Int.fdiv (IntKind.u64.wrap (wrap64 (x7 + x8))) (2 ^ (min (Int.toNat 1) 64))))) a1).bind fun r3 => (if r3 = true then slices_BinarySearch_int_int.l0 k l0 a1 (wrap64 ((wrap64 (Int.fdiv (IntKind.u64.wrap (wrap64 (x7 + x8))) (2 ^ (min (Int.toNat 1) 64)))) + 1)) x8 else slices_BinarySearch_int_int.l0 k l0 a1 x7 (wrap64 (Int.fdiv (IntKind.u64.wrap (wrap64 (x7 + x8))) (2 ^ (min (Int.toNat 1) 64)))))) else Option.none) else Option.none) else (if x7 < (l0.length : Int) then (if 0 ≤ x7 then (if x7 < (l0.length : Int) then (if (rd l0 x7) = a1 then Option.some (x7, true) else (if 0 ≤ x7 then (if x7 < (l0.length : Int) then ((slices_isNaN_int.f (rd l0 x7)).bind fun r9 => (if r9 = true then ((slices_isNaN_int.f a1).bind fun r10 => Option.some (x7, r10)) else Option.some (x7, false))) else Option.none) else Option.none)) else Option.none) else Option.none) else Option.some (x7, false)))
def slices_BinarySearch_int_int.f (k : Nat) (l0 : List Int) (a1 : Int) : Option (Int × Bool) := slices_BinarySearch_int_int.l0 k l0 a1 0 (l0.length : Int)
theorem slices_BinarySearch_int_int.loops : ∀ k, (∀ (l0 : List Int) (a1 : Int) (x7 : Int) (x8 : Int), RS (fam Tryz.f71 [] [] [] (fun r : Int × Bool => .tup [.int .i64 r.1, .bool r.2]) (fun r => [])) (Func.head Tryz.f71 0) ⟨ofT [(0, sq eI l0), (1, .int .i64 a1), (6, .int .i64 (l0.length : Int)), (7, .int .i64 x7), (8, .int .i64 x8)], ofL []⟩ (slices_BinarySearch_int_int.l0 k l0 a1 x7 x8))
  | 0 => by intro _ _ _ _; simp only [slices_BinarySearch_int_int.l0]; exact RS.none
  | k + 1 => by
    have ih := slices_BinarySearch_int_int.loops k
    · intro l0 a1 x7 x8
      simp only [slices_BinarySearch_int_int.l0]
      refine RS.go ?_
      refine RT.br rfl (fun c14 => ?_) (fun c14 => ?_)
      · refine RT.brF rfl ?_
        refine RT.br rfl (fun c1 => ?_) (fun c1 => RT.none)
        refine RT.br rfl (fun c2 => ?_) (fun c2 => RT.none)
        refine RT.call0 rfl (fun _ h => cmp_Less_int.ok (rd l0 (wrap64 (Int.fdiv (IntKind.u64.wrap (wrap64 (x7 + x8))) (2 ^ (min (Int.toNat 1) 64))))) a1 _ h) (LeL.eq rfl) (fun _ => rfl) (fun r3 => ?_)
        refine RS.go ?_
        refine RT.brB rfl (fun c4 => ?_) (fun c4 => ?_)
        · refine RT.goto rfl ?_
          refine RS.weak [(0, sq eI l0), (1, .int .i64 a1), (6, .int .i64 (l0.length : Int)), (7, .int .i64 (wrap64 ((wrap64 (Int.fdiv (IntKind.u64.wrap (wrap64 (x7 + x8))) (2 ^ (min (Int.toNat 1) 64)))) + 1))), (8, .int .i64 x8)] [] ⟨Le.eq (by first | rfl | simp), Le.eq (by first | rfl | simp), Le.eq (by first | rfl | simp), Le.eq (by first | rfl | simp), Le.eq (by first | rfl | simp), trivial⟩ trivial rfl (dom0 rfl) ?_
          exact ih l0 a1 (wrap64 ((wrap64 (Int.fdiv (IntKind.u64.wrap (wrap64 (x7 + x8))) (2 ^ (min (Int.toNat 1) 64)))) + 1)) x8 
        · refine RT.goto rfl ?_
          refine RS.weak [(0, sq eI l0), (1, .int .i64 a1), (6, .int .i64 (l0.length : Int)), (7, .int .i64 x7), (8, .int .i64 (wrap64 (Int.fdiv (IntKind.u64.wrap (wrap64 (x7 + x8))) (2 ^ (min (Int.toNat 1) 64)))))] [] ⟨Le.eq (by first | rfl | simp), Le.eq (by first | rfl | simp), Le.eq (by first | rfl | simp), Le.eq (by first | rfl | simp), Le.eq (by first | rfl | simp), trivial⟩ trivial rfl (dom0 rfl) ?_
          exact ih l0 a1 x7 (wrap64 (Int.fdiv (IntKind.u64.wrap (wrap64 (x7 + x8))) (2 ^ (min (Int.toNat 1) 64)))) 
      · refine RT.br rfl (fun c13 => ?_) (fun c13 => ?_)
        · refine RT.brT rfl ?_
          refine RT.brT rfl ?_
          refine RT.br rfl (fun c5 => ?_) (fun c5 => RT.none)
          refine RT.br rfl (fun c6 => ?_) (fun c6 => RT.none)
          refine RT.brT rfl ?_
          refine RT.brT rfl ?_
          refine RT.brT rfl ?_
          refine RT.brT rfl ?_
          refine RT.br rfl (fun c12 => ?_) (fun c12 => ?_)
          · refine RT.brT rfl ?_
            refine RT.brT rfl ?_
            refine RT.brT rfl ?_
            refine RT.brT rfl ?_
            refine RT.brT rfl ?_
            refine RT.brT rfl ?_
            refine RT.brT rfl ?_
            refine RT.brT rfl ?_
            refine RT.brT rfl ?_
            exact RT.done rfl rfl (Le.tup (LeL.cons (Le.refl _) (LeL.cons (Le.refl _) (LeL.nil)))) trivial rfl (dom0 rfl)
          · refine RT.brF rfl ?_
            refine RT.brF rfl ?_
            refine RT.br rfl (fun c7 => ?_) (fun c7 => RT.none)
            refine RT.br rfl (fun c8 => ?_) (fun c8 => RT.none)
            refine RT.brF rfl ?_
            refine RT.brF rfl ?_
            refine RT.call0 rfl (fun _ h => slices_isNaN_int.ok (rd l0 x7) _ h) (LeL.eq rfl) (fun _ => rfl) (fun r9 => ?_)
            refine RS.go ?_
            refine RT.brF rfl ?_
            refine RT.brB rfl (fun c11 => ?_) (fun c11 => ?_)
            · refine RT.brT rfl ?_
              refine RT.call0 rfl (fun _ h => slices_isNaN_int.ok a1 _ h) (LeL.eq rfl) (fun _ => rfl) (fun r10 => ?_)
              refine RS.go ?_
              refine RT.brF rfl ?_
              refine RT.brT rfl ?_
              refine RT.brT rfl ?_
              refine RT.brF rfl ?_
              refine RT.brT rfl ?_
              exact RT.done rfl rfl (Le.tup (LeL.cons (Le.refl _) (LeL.cons (Le.refl _) (LeL.nil)))) trivial rfl (dom0 rfl)
            · refine RT.brF rfl ?_
              refine RT.brF rfl ?_
              refine RT.brF rfl ?_
              refine RT.brT rfl ?_
              refine RT.brF rfl ?_
              refine RT.brT rfl ?_
              exact RT.done rfl rfl (Le.tup (LeL.cons (Le.refl _) (LeL.cons (Le.refl _) (LeL.nil)))) trivial rfl (dom0 rfl)
        · refine RT.brF rfl ?_
          refine RT.brF rfl ?_
          refine RT.brF rfl ?_
          refine RT.brF rfl ?_
          refine RT.brF rfl ?_
          refine RT.brF rfl ?_
          refine RT.brF rfl ?_
          refine RT.brF rfl ?_
          exact RT.done rfl rfl (Le.tup (LeL.cons (Le.refl _) (LeL.cons (Le.refl _) (LeL.nil)))) trivial rfl (dom0 rfl)
theorem slices_BinarySearch_int_int.ok (k : Nat) (l0 : List Int) (a1 : Int) (r : Int × Bool) (h : slices_BinarySearch_int_int.f k l0 a1 = some r) : Ct Tryz.prog B 71 [sq eI l0, .int .i64 a1] (ofL []) (.tup [.int .i64 r.1, .bool r.2]) (ofL []) := by
  refine Ct.of (Y := (fam Tryz.f71 [] [] [] (fun r : Int × Bool => .tup [.int .i64 r.1, .bool r.2]) (fun r => []))) Tryz.func71 rfl Tryz.call71 rfl rfl ?_ r h
  unfold slices_BinarySearch_int_int.f
  refine RS.go ?_
  refine RT.goto rfl ?_
  refine RS.weak [(0, sq eI l0), (1, .int .i64 a1), (6, .int .i64 (l0.length : Int)), (7, .int .i64 0), (8, .int .i64 (l0.length : Int))] [] ⟨Le.eq (by first | rfl | simp), Le.eq (by first | rfl | simp), Le.eq (by first | rfl | simp), Le.eq (by first | rfl | simp), Le.eq (by first | rfl | simp), trivial⟩ trivial rfl (dom0 rfl) ?_
  exact slices_BinarySearch_int_int.loops k l0 a1 0 (l0.length : Int) 
/-! ### rate_before: function 45 -/
def rate_before.f (k : Nat) (l0 : List Int) (a1 : Int) : Option (Int) := ((slices_BinarySearch_int_int.f k l0 a1).bind fun r1 => Option.some r1.1)
theorem rate_before.ok (k : Nat) (l0 : List Int) (a1 : Int) (r : Int) (h : rate_before.f k l0 a1 = some r) : Ct Tryz.prog B 45 [sq eI l0, .int .i64 a1] (ofL []) (.int .i64 r) (ofL []) := by
  refine Ct.of (Y := (fam Tryz.f45 [] [] [] (fun r : Int => .int .i64 r) (fun r => []))) Tryz.func45 rfl Tryz.call45 rfl rfl ?_ r h
  unfold rate_before.f
  refine RS.go ?_
  refine RT.call0 rfl (fun _ h => slices_BinarySearch_int_int.ok k l0 a1 _ h) (LeL.eq rfl) (fun _ => rfl) (fun r1 => ?_)
  refine RS.go ?_
  exact RT.done rfl rfl (Le.refl _) trivial rfl (dom0 rfl)
/-! ### rate_in: function 62 -/
def rate_in.k0 : List DK := [⟨[14], [], [4], []⟩, ⟨[13], [], [14], []⟩, ⟨[8, 12], [], [13], []⟩, ⟨[9, 11], [], [12], []⟩, ⟨[10], [3], [11], []⟩, ⟨[3], [3], [10], []⟩, ⟨[0], [], [9], []⟩, ⟨[5, 7], [], [8], []⟩, ⟨[6], [3], [7], []⟩, ⟨[3], [3], [6], []⟩, ⟨[0], [], [5], []⟩]
def rate_in.k1 : List Nat := [0, 0, 2, 7, 0, 0, 32, 127, 255, 511, 1023]
def rate_in.f (k : Nat) (l0 : List Int) (a1_0 : Int) (a1_1 : Int) : Option (Int) := ((rate_before.f k l0 a1_1).bind fun r1 => ((rate_before.f k l0 a1_0).bind fun r2 => Option.some (mx 0 (wrap64 (r1 - r2)))))
theorem rate_in.ok (k : Nat) (l0 : List Int) (a1_0 : Int) (a1_1 : Int) (r : Int) (h : rate_in.f k l0 a1_0 a1_1 = some r) : Ct Tryz.prog B 62 [sq eI l0, .agg [.int .i64 a1_0, .int .i64 a1_1]] (ofL []) (.int .i64 r) (ofL []) := by
  refine Ct.of (Y := (fam Tryz.f62 [] [] [] (fun r : Int => .int .i64 r) (fun r => []))) Tryz.func62 rfl Tryz.call62 rfl rfl ?_ r h
  unfold rate_in.f
  refine RS.go ?_
  refine RT.goto rfl ?_
  refine RS.draw rfl ?_
  refine RD.call (CR := []) (CW := (fun r => [])) rfl (fun _ h => rate_before.ok k l0 a1_1 _ h) (fun i => i) trivial (fun _ => rfl) ⟨_, _, _, _, rfl, rfl, rfl⟩ (LeL.eq rfl) trivial (fun _ => rfl) (fun r1 => ?_)
  refine RD.call (CR := []) (CW := (fun r => [])) rfl (fun _ h => rate_before.ok k l0 a1_0 _ h) (fun i => i) trivial (fun _ => rfl) ⟨_, _, _, _, rfl, rfl, rfl⟩ (LeL.eq rfl) trivial (fun _ => rfl) (fun r2 => ?_)
  refine RD.fin rate_in.k0 rate_in.k1 rfl rfl (by decide +kernel) ?_
  refine RS.go ?_
  exact RT.done rfl rfl (Le.refl _) trivial rfl (dom0 rfl)
/-! ### rate_Best: function 30 -/
def rate_Best.k0 : List DK := [⟨[34], [], [11], []⟩, ⟨[25], [], [10], []⟩, ⟨[26, 33], [], [34], []⟩, ⟨[28, 32], [], [33], []⟩, ⟨[30, 31], [], [32], []⟩, ⟨[2], [], [31], []⟩, ⟨[29], [4], [30], []⟩, ⟨[4], [4], [29], []⟩, ⟨[27], [4], [28], []⟩, ⟨[4], [4], [27], []⟩, ⟨[0], [], [26], []⟩, ⟨[24], [4], [25], []⟩, ⟨[4], [4], [24], []⟩]
def rate_Best.k1 : List Nat := [0, 1, 0, 0, 8, 0, 32, 0, 224, 504, 1020, 2047, 4095]
mutual
def rate_Best.j13 : Nat → List Int → Int → Int → Int → Int → Option (Int × Int × Int)
  | 0, _, _, _, _, _ => Option.none
  | k + 1, l0, a2, x37, x10j13, x11j13 => rate_Best.l0 k l0 a2 x10j13 x11j13 (wrap64 (x37 + 1))
def rate_Best.l0 : Nat → List Int → Int → Int → Int → Int → Option (Int × Int × Int)
  | 0, _, _, _, _, _ => Option.none
  | k + 1, l0, a2, x10, x11, x37 => (if x37 < (l0.length : Int) then (if 0 ≤ x37 then (if x37 < (l0.length : Int) then ((rate_in.f k l0 (rd l0 x37) (wrap64 ((rd l0 x37) + a2))).bind fun r6 => (if r6 > x11 then rate_Best.j13 k l0 a2 x37 (rd l0 x37) r6 else rate_Best.j13 k l0 a2 x37 x10 x11)) else Option.none) else Option.none) else Option.some (x10, x11, 0))
end
def rate_Best.f (k : Nat) (l0 : List Int) (a1_0 : Int) (a1_1 : Int) (a2 : Int) : Option (Int × Int × Int) := ((rate_CheckTimes.f k l0 a1_0 a1_1).bind fun r1 => (if r1 = 0 then ((rate_isLong.f a2).bind fun r2 => (if r2 = true then ((rate_in.f k l0 a1_0 (wrap64 (a1_0 + a2))).bind fun r3 => rate_Best.l0 k l0 a2 a1_0 r3 0) else Option.some (0, 0, 1))) else Option.some (0, 0, r1)))
theorem rate_Best.loops : ∀ k, (∀ (l0 : List Int) (a2 : Int) (x37 : Int) (x10j13 : Int) (x11j13 : Int), RS (fam Tryz.f30 [13] [] [] (fun r : Int × Int × Int => .tup [.int .i64 r.1, .int .i64 r.2.1, .int .i64 r.2.2]) (fun r => [])) (Func.reg Tryz.f30 13) ⟨ofT [(0, sq eI l0), (2, .int .i64 a2), (10, .int .i64 x10j13), (11, .int .i64 x11j13), (35, sq eI l0), (36, .int .i64 (l0.length : Int)), (37, .int .i64 x37)], ofL []⟩ (rate_Best.j13 k l0 a2 x37 x10j13 x11j13)) ∧ (∀ (l0 : List Int) (a2 : Int) (x10 : Int) (x11 : Int) (x37 : Int), RS (fam Tryz.f30 [13] [] [] (fun r : Int × Int × Int => .tup [.int .i64 r.1, .int .i64 r.2.1, .int .i64 r.2.2]) (fun r => [])) (Func.head Tryz.f30 0) ⟨ofT [(0, sq eI l0), (2, .int .i64 a2), (10, .int .i64 x10), (11, .int .i64 x11), (35, sq eI l0), (36, .int .i64 (l0.length : Int)), (37, .int .i64 x37)], ofL []⟩ (rate_Best.l0 k l0 a2 x10 x11 x37))
  | 0 => ⟨by intro _ _ _ _ _; simp only [rate_Best.j13]; exact RS.none, by intro _ _ _ _ _; simp only [rate_Best.l0]; exact RS.none⟩
  | k + 1 => by
    have ih := rate_Best.loops k
    refine ⟨?_, ?_⟩
    · intro l0 a2 x37 x10j13 x11j13
      simp only [rate_Best.j13]
      refine RS.region ?_
      refine RS.go ?_
      refine RT.goto rfl ?_
      refine RS.weak [(0, sq eI l0), (2, .int .i64 a2), (10, .int .i64 x10j13), (11, .int .i64 x11j13), (35, sq eI l0), (36, .int .i64 (l0.length : Int)), (37, .int .i64 (wrap64 (x37 + 1)))] [] ⟨Le.eq (by first | rfl | simp), Le.eq (by first | rfl | simp), Le.eq (by first | rfl | simp), Le.eq (by first | rfl | simp), Le.eq (by first | rfl | simp), Le.eq (by first | rfl | simp), Le.eq (by first | rfl | simp), trivial⟩ trivial rfl (dom0 rfl) ?_
      exact ih.2 l0 a2 x10j13 x11j13 (wrap64 (x37 + 1)) 
    · intro l0 a2 x10 x11 x37
      simp only [rate_Best.l0]
      refine RS.go ?_
      refine RT.br rfl (fun c8 => ?_) (fun c8 => ?_)
      · refine RT.br rfl (fun c4 => ?_) (fun c4 => RT.none)
        refine RT.br rfl (fun c5 => ?_) (fun c5 => RT.none)
        refine RT.call0 rfl (fun _ h => rate_in.ok k l0 (rd l0 x37) (wrap64 ((rd l0 x37) + a2)) _ h) (LeL.eq rfl) (fun _ => rfl) (fun r6 => ?_)
        refine RS.go ?_
        refine RT.br rfl (fun c7 => ?_) (fun c7 => ?_)
        · refine RT.goto rfl ?_
          refine RS.weak [(0, sq eI l0), (2, .int .i64 a2), (10, .int .i64 (rd l0 x37)), (11, .int .i64 r6), (35, sq eI l0), (36, .int .i64 (l0.length : Int)), (37, .int .i64 x37)] [] ⟨Le.eq (by first | rfl | simp), Le.eq (by first | rfl | simp), Le.eq (by first | rfl | simp), Le.eq (by first | rfl | simp), Le.eq (by first | rfl | simp), Le.eq (by first | rfl | simp), Le.eq (by first | rfl | simp), trivial⟩ trivial rfl (dom0 rfl) ?_
          exact ih.1 l0 a2 x37 (rd l0 x37) r6 
        · refine RT.goto rfl ?_
          refine RS.weak [(0, sq eI l0), (2, .int .i64 a2), (10, .int .i64 x10), (11, .int .i64 x11), (35, sq eI l0), (36, .int .i64 (l0.length : Int)), (37, .int .i64 x37)] [] ⟨Le.eq (by first | rfl | simp), Le.eq (by first | rfl | simp), Le.eq (by first | rfl | simp), Le.eq (by first | rfl | simp), Le.eq (by first | rfl | simp), Le.eq (by first | rfl | simp), Le.eq (by first | rfl | simp), trivial⟩ trivial rfl (dom0 rfl) ?_
          exact ih.1 l0 a2 x37 x10 x11 
      · exact RT.done rfl rfl (Le.tup (LeL.cons (Le.refl _) (LeL.cons (Le.refl _) (LeL.cons (Le.refl _) (LeL.nil))))) trivial rfl (dom0 rfl)
theorem rate_Best.ok (k : Nat) (l0 : List Int) (a1_0 : Int) (a1_1 : Int) (a2 : Int) (r : Int × Int × Int) (h : rate_Best.f k l0 a1_0 a1_1 a2 = some r) : Ct Tryz.prog B 30 [sq eI l0, .agg [.int .i64 a1_0, .int .i64 a1_1], .int .i64 a2] (ofL []) (.tup [.int .i64 r.1, .int .i64 r.2.1, .int .i64 r.2.2]) (ofL []) := by
  refine Ct.of (Y := (fam Tryz.f30 [13] [] [] (fun r : Int × Int × Int => .tup [.int .i64 r.1, .int .i64 r.2.1, .int .i64 r.2.2]) (fun r => []))) Tryz.func30 rfl Tryz.call30 rfl rfl ?_ r h
  unfold rate_Best.f
  refine RS.go ?_
  refine RT.call0 rfl (fun _ h => rate_CheckTimes.ok k l0 a1_0 a1_1 _ h) (LeL.eq rfl) (fun _ => rfl) (fun r1 => ?_)
  refine RS.go ?_
  refine RT.brN rfl (fun c10 => ?_) (fun c10 => ?_)
  · refine RT.call0 rfl (fun _ h => rate_isLong.ok a2 _ h) (LeL.eq rfl) (fun _ => rfl) (fun r2 => ?_)
    refine RS.go ?_
    refine RT.brBN rfl (fun c9 => ?_) (fun c9 => ?_)
    · refine RT.goto rfl ?_
      refine RS.draw rfl ?_
      refine RD.call (CR := []) (CW := (fun r => [])) rfl (fun _ h => rate_in.ok k l0 a1_0 (wrap64 (a1_0 + a2)) _ h) (fun i => i) trivial (fun _ => rfl) ⟨_, _, _, _, rfl, rfl, rfl⟩ (LeL.eq rfl) trivial (fun _ => rfl) (fun r3 => ?_)
      refine RD.fin rate_Best.k0 rate_Best.k1 rfl rfl (by decide +kernel) ?_
      refine RS.go ?_
      refine RT.goto rfl ?_
      refine RS.weak [(0, sq eI l0), (2, .int .i64 a2), (10, .int .i64 a1_0), (11, .int .i64 r3), (35, sq eI l0), (36, .int .i64 (l0.length : Int)), (37, .int .i64 0)] [] ⟨Le.eq (by first | rfl | simp), Le.eq (by first | rfl | simp), Le.eq (by first | rfl | simp), Le.eq (by first | rfl | simp), Le.eq (by first | rfl | simp), Le.eq (by first | rfl | simp), Le.eq (by first | rfl | simp), trivial⟩ trivial rfl (dom0 rfl) ?_
      exact (rate_Best.loops k).2 l0 a2 a1_0 r3 0 
    · exact RT.done rfl rfl (Le.tup (LeL.cons (Le.refl _) (LeL.cons (Le.refl _) (LeL.cons (Le.refl _) (LeL.nil))))) trivial rfl (dom0 rfl)
  · exact RT.done rfl rfl (Le.tup (LeL.cons (Le.refl _) (LeL.cons (Le.refl _) (LeL.cons (Le.refl _) (LeL.nil))))) trivial rfl (dom0 rfl)
/-! ### pilekeep1_ready: function 8 -/
def pilekeep1_ready.f (k : Nat) : Option (Bool) := ((call_Apart.f k (⟨#[111, 104, 50, 97, 98, 99, 47, 52]⟩ : ByteArray)).bind fun r1 => ((place_Cosine.f k 216000).bind fun r2 => ((key_Units.f k (⟨#[112, 97, 114, 105, 115]⟩ : ByteArray)).bind fun r3 => ((rate_Best.f k [0, 600000, 1200000] 0 3600000 900000).bind fun r4 => (if r1.2.2.2.2.2 = 0 then (if r1.2.1 = (⟨#[111, 104, 50]⟩ : ByteArray) then (if r2.2 = 0 then (if r2.1 = 500000 then (if r3.2 = 0 then (if r3.1 = 43 then (if r4.2.2 = 0 then (if r4.1 = 0 then Option.some (decide (r4.2.1 = 2)) else Option.some false) else Option.some false) else Option.some false) else Option.some false) else Option.some false) else Option.some false) else Option.some false) else Option.some false)))))
theorem pilekeep1_ready.ok (k : Nat) (r : Bool) (h : pilekeep1_ready.f k  = some r) : Ct Tryz.prog B 8 [] (ofL []) (.bool r) (ofL []) := by
  refine Ct.of (Y := (fam Tryz.f8 [] [] [] (fun r : Bool => .bool r) (fun r => []))) Tryz.func8 rfl Tryz.call8 rfl rfl ?_ r h
  unfold pilekeep1_ready.f
  refine RS.go ?_
  refine RT.call0 rfl (fun _ h => call_Apart.ok k (⟨#[111, 104, 50, 97, 98, 99, 47, 52]⟩ : ByteArray) _ h) (LeL.eq rfl) (fun _ => rfl) (fun r1 => ?_)
  refine RS.go ?_
  refine RT.call0 rfl (fun _ h => place_Cosine.ok k 216000 _ h) (LeL.eq rfl) (fun _ => rfl) (fun r2 => ?_)
  refine RS.go ?_
  refine RT.call0 rfl (fun _ h => key_Units.ok k (⟨#[112, 97, 114, 105, 115]⟩ : ByteArray) _ h) (LeL.eq rfl) (fun _ => rfl) (fun r3 => ?_)
  refine RS.go ?_
  refine RT.goto rfl ?_
  refine RS.slot 23 (sq eI [0, 600000, 1200000]) (Le.lit (E := eI) (l := [0, 600000, 1200000]) (cells_of rfl)) ?_
  refine RS.go ?_
  refine RT.call0 rfl (fun _ h => rate_Best.ok k [0, 600000, 1200000] 0 3600000 900000 _ h) (LeL.eq rfl) (fun _ => rfl) (fun r4 => ?_)
  refine RS.go ?_
  refine RT.br rfl (fun c12 => ?_) (fun c12 => ?_)
  · refine RT.brT rfl ?_
    refine RT.brT rfl ?_
    refine RT.brT rfl ?_
    refine RT.br rfl (fun c11 => ?_) (fun c11 => ?_)
    · refine RT.brT rfl ?_
      refine RT.brT rfl ?_
      refine RT.br rfl (fun c10 => ?_) (fun c10 => ?_)
      · refine RT.brT rfl ?_
        refine RT.brT rfl ?_
        refine RT.br rfl (fun c9 => ?_) (fun c9 => ?_)
        · refine RT.brT rfl ?_
          refine RT.brT rfl ?_
          refine RT.br rfl (fun c8 => ?_) (fun c8 => ?_)
          · refine RT.brT rfl ?_
            refine RT.brT rfl ?_
            refine RT.br rfl (fun c7 => ?_) (fun c7 => ?_)
            · refine RT.brT rfl ?_
              refine RT.brT rfl ?_
              refine RT.br rfl (fun c6 => ?_) (fun c6 => ?_)
              · refine RT.brT rfl ?_
                refine RT.brT rfl ?_
                refine RT.br rfl (fun c5 => ?_) (fun c5 => ?_)
                · refine RT.brT rfl ?_
                  refine RT.brT rfl ?_
                  exact RT.done rfl rfl (Le.refl _) trivial rfl (dom0 rfl)
                · refine RT.brF rfl ?_
                  refine RT.brF rfl ?_
                  exact RT.done rfl rfl (Le.refl _) trivial rfl (dom0 rfl)
              · refine RT.brF rfl ?_
                refine RT.brF rfl ?_
                refine RT.brF rfl ?_
                refine RT.brF rfl ?_
                refine RT.brF rfl ?_
                exact RT.done rfl rfl (Le.refl _) trivial rfl (dom0 rfl)
            · refine RT.brF rfl ?_
              refine RT.brF rfl ?_
              refine RT.brF rfl ?_
              refine RT.brF rfl ?_
              refine RT.brF rfl ?_
              refine RT.brF rfl ?_
              refine RT.brF rfl ?_
              refine RT.brF rfl ?_
              exact RT.done rfl rfl (Le.refl _) trivial rfl (dom0 rfl)
          · refine RT.brF rfl ?_
            refine RT.brF rfl ?_
            refine RT.brF rfl ?_
            refine RT.brF rfl ?_
            refine RT.brF rfl ?_
            refine RT.brF rfl ?_
            refine RT.brF rfl ?_
            refine RT.brF rfl ?_
            refine RT.brF rfl ?_
            refine RT.brF rfl ?_
            refine RT.brF rfl ?_
            exact RT.done rfl rfl (Le.refl _) trivial rfl (dom0 rfl)
        · refine RT.brF rfl ?_
          refine RT.brF rfl ?_
          refine RT.brF rfl ?_
          refine RT.brF rfl ?_
          refine RT.brF rfl ?_
          refine RT.brF rfl ?_
          refine RT.brF rfl ?_
          refine RT.brF rfl ?_
          refine RT.brF rfl ?_
          refine RT.brF rfl ?_
          refine RT.brF rfl ?_
          refine RT.brF rfl ?_
          refine RT.brF rfl ?_
          refine RT.brF rfl ?_
          exact RT.done rfl rfl (Le.refl _) trivial rfl (dom0 rfl)
      · refine RT.brF rfl ?_
        refine RT.brF rfl ?_
        refine RT.brF rfl ?_
        refine RT.brF rfl ?_
        refine RT.brF rfl ?_
        refine RT.brF rfl ?_
        refine RT.brF rfl ?_
        refine RT.brF rfl ?_
        refine RT.brF rfl ?_
        refine RT.brF rfl ?_
        refine RT.brF rfl ?_
        refine RT.brF rfl ?_
        refine RT.brF rfl ?_
        refine RT.brF rfl ?_
        refine RT.brF rfl ?_
        refine RT.brF rfl ?_
        refine RT.brF rfl ?_
        exact RT.done rfl rfl (Le.refl _) trivial rfl (dom0 rfl)
    · refine RT.brF rfl ?_
      refine RT.brF rfl ?_
      refine RT.brF rfl ?_
      refine RT.brF rfl ?_
      refine RT.brF rfl ?_
      refine RT.brF rfl ?_
      refine RT.brF rfl ?_
      refine RT.brF rfl ?_
      refine RT.brF rfl ?_
      refine RT.brF rfl ?_
      refine RT.brF rfl ?_
      refine RT.brF rfl ?_
      refine RT.brF rfl ?_
      refine RT.brF rfl ?_
      refine RT.brF rfl ?_
      refine RT.brF rfl ?_
      refine RT.brF rfl ?_
      refine RT.brF rfl ?_
      refine RT.brF rfl ?_
      refine RT.brF rfl ?_
      exact RT.done rfl rfl (Le.refl _) trivial rfl (dom0 rfl)
  · refine RT.brF rfl ?_
    refine RT.brF rfl ?_
    refine RT.brF rfl ?_
    refine RT.brF rfl ?_
    refine RT.brF rfl ?_
    refine RT.brF rfl ?_
    refine RT.brF rfl ?_
    refine RT.brF rfl ?_
    refine RT.brF rfl ?_
    refine RT.brF rfl ?_
    refine RT.brF rfl ?_
    refine RT.brF rfl ?_
    refine RT.brF rfl ?_
    refine RT.brF rfl ?_
    refine RT.brF rfl ?_
    refine RT.brF rfl ?_
    refine RT.brF rfl ?_
    refine RT.brF rfl ?_
    refine RT.brF rfl ?_
    refine RT.brF rfl ?_
    refine RT.brF rfl ?_
    refine RT.brF rfl ?_
    refine RT.brF rfl ?_
    refine RT.brF rfl ?_
    exact RT.done rfl rfl (Le.refl _) trivial rfl (dom0 rfl)
/-! ### kit_IsMoment: function 37 -/
def kit_IsMoment.f (a0 : Int) : Option (Bool) := ((kit_Outside.f a0 0 345686399999).bind fun r1 => Option.some (!r1))
theorem kit_IsMoment.ok (a0 : Int) (r : Bool) (h : kit_IsMoment.f a0 = some r) : Ct Tryz.prog B 37 [.int .i64 a0] (ofL []) (.bool r) (ofL []) := by
  refine Ct.of (Y := (fam Tryz.f37 [] [] [] (fun r : Bool => .bool r) (fun r => []))) Tryz.func37 rfl Tryz.call37 rfl rfl ?_ r h
  unfold kit_IsMoment.f
  refine RS.go ?_
  refine RT.call0 rfl (fun _ h => kit_Outside.ok a0 0 345686399999 _ h) (LeL.eq rfl) (fun _ => rfl) (fun r1 => ?_)
  refine RS.go ?_
  exact RT.done rfl rfl (Le.refl _) trivial rfl (dom0 rfl)
/-! ### kit_IsKey: function 88 -/
def kit_IsKey.f (a0 : ByteArray) : Option (Bool) := (if a0 = (⟨#[]⟩ : ByteArray) then Option.some false else (if (a0.size : Int) ≤ 40 then (if 0 < (a0.size : Int) then ((strings_IndexByte.f str_1 (bt a0 0)).bind fun r2 => (if r2 ≥ 0 then ((strings_Trim.f a0 str_0).bind fun r3 => Option.some (decide (r3 = (⟨#[]⟩ : ByteArray)))) else Option.some false)) else Option.none) else Option.some false))
theorem kit_IsKey.ok (a0 : ByteArray) (r : Bool) (h : kit_IsKey.f a0 = some r) : Ct Tryz.prog B 88 [.str a0] (ofL []) (.bool r) (ofL []) := by
  refine Ct.of (Y := (fam Tryz.f88 [] [] [] (fun r : Bool => .bool r) (fun r => []))) Tryz.func88 rfl Tryz.call88 rfl rfl ?_ r h
  unfold kit_IsKey.f
  refine RS.go ?_
  refine RT.brN rfl (fun c6 => ?_) (fun c6 => ?_)
  · refine RT.brF rfl ?_
    refine RT.brF rfl ?_
    refine RT.brF rfl ?_
    refine RT.brF rfl ?_
    refine RT.brF rfl ?_
    refine RT.brF rfl ?_
    refine RT.brF rfl ?_
    refine RT.brF rfl ?_
    refine RT.brF rfl ?_
    refine RT.brF rfl ?_
    refine RT.brF rfl ?_
    refine RT.brF rfl ?_
    exact RT.done rfl rfl (Le.refl _) trivial rfl (dom0 rfl)
  · refine RT.brT rfl ?_
    refine RT.brT rfl ?_
    refine RT.brT rfl ?_
    refine RT.br rfl (fun c5 => ?_) (fun c5 => ?_)
    · refine RT.brT rfl ?_
      refine RT.brT rfl ?_
      refine RT.br rfl (fun c1 => ?_) (fun c1 => RT.none)
      refine RT.brT rfl ?_
      refine RT.call0 rfl (fun _ h => strings_IndexByte.ok str_1 (bt a0 0) _ h) (LeL.eq rfl) (fun _ => rfl) (fun r2 => ?_)
      refine RS.go ?_
      refine RT.brT rfl ?_
      refine RT.brT rfl ?_
      refine RT.br rfl (fun c4 => ?_) (fun c4 => ?_)
      · refine RT.brT rfl ?_
        refine RT.call0 rfl (fun _ h => strings_Trim.ok a0 str_0 _ h) (LeL.eq rfl) (fun _ => rfl) (fun r3 => ?_)
        refine RS.go ?_
        refine RT.brT rfl ?_
        refine RT.brT rfl ?_
        exact RT.done rfl rfl (Le.refl _) trivial rfl (dom0 rfl)
      · refine RT.brF rfl ?_
        refine RT.brF rfl ?_
        refine RT.brF rfl ?_
        exact RT.done rfl rfl (Le.refl _) trivial rfl (dom0 rfl)
    · refine RT.brF rfl ?_
      refine RT.brF rfl ?_
      refine RT.brF rfl ?_
      refine RT.brF rfl ?_
      refine RT.brF rfl ?_
      refine RT.brF rfl ?_
      refine RT.brF rfl ?_
      refine RT.brF rfl ?_
      exact RT.done rfl rfl (Le.refl _) trivial rfl (dom0 rfl)
/-! ### kit_IsName: function 64 -/
def kit_IsName.f (a0 : ByteArray) : Option (Bool) := (if a0 = (⟨#[]⟩ : ByteArray) then Option.some true else ((kit_IsKey.f a0).bind fun r1 => Option.some r1))
theorem kit_IsName.ok (a0 : ByteArray) (r : Bool) (h : kit_IsName.f a0 = some r) : Ct Tryz.prog B 64 [.str a0] (ofL []) (.bool r) (ofL []) := by
  refine Ct.of (Y := (fam Tryz.f64 [] [] [] (fun r : Bool => .bool r) (fun r => []))) Tryz.func64 rfl Tryz.call64 rfl rfl ?_ r h
  unfold kit_IsName.f
  refine RS.go ?_
  refine RT.br rfl (fun c2 => ?_) (fun c2 => ?_)
  · refine RT.brT rfl ?_
    refine RT.brT rfl ?_
    exact RT.done rfl rfl (Le.refl _) trivial rfl (dom0 rfl)
  · refine RT.brF rfl ?_
    refine RT.call0 rfl (fun _ h => kit_IsKey.ok a0 _ h) (LeL.eq rfl) (fun _ => rfl) (fun r1 => ?_)
    refine RS.go ?_
    refine RT.brF rfl ?_
    exact RT.done rfl rfl (Le.refl _) trivial rfl (dom0 rfl)
/-! ### rate_CheckShifts: function 32 -/
def rate_CheckShifts.k0 : List DK := [⟨[40], [], [27], []⟩, ⟨[30, 39], [], [40], []⟩, ⟨[30, 32, 38], [], [39], []⟩, ⟨[30, 37], [], [38], []⟩, ⟨[30, 36], [], [37], []⟩, ⟨[30, 33, 35], [], [36], []⟩, ⟨[30, 34], [], [35], []⟩, ⟨[30, 4], [], [34], []⟩, ⟨[30, 0], [], [33], []⟩, ⟨[30, 31], [5], [32], []⟩, ⟨[30, 5], [5], [31], []⟩, ⟨[29], [], [30], []⟩, ⟨[28], [], [29], []⟩, ⟨[4], [], [28], []⟩]
def rate_CheckShifts.k1 : List Nat := [0, 1, 3, 7, 15, 7, 7, 71, 231, 487, 999, 2047, 4095, 8191]
def rate_CheckShifts.k2 : List DK := [⟨[40], [], [27], []⟩, ⟨[30, 39], [], [40], []⟩, ⟨[30], [], [39], []⟩, ⟨[30], [], [38], []⟩, ⟨[30], [], [37], []⟩, ⟨[30], [], [36], []⟩, ⟨[30], [], [35], []⟩, ⟨[30], [], [34], []⟩, ⟨[30], [], [33], []⟩, ⟨[30], [], [32], []⟩, ⟨[30], [], [31], []⟩, ⟨[29], [], [30], []⟩, ⟨[28], [], [29], []⟩, ⟨[4], [], [28], []⟩]
mutual
def rate_CheckShifts.j15 : Nat → List (Int × ByteArray) → Int → List (ByteArray × Bool) → Option (Int)
  | 0, _, _, _ => Option.none
  | k + 1, l0, x12, o9j15 => rate_CheckShifts.l0 k l0 (wrap64 (x12 + 1)) o9j15
def rate_CheckShifts.l0 : Nat → List (Int × ByteArray) → Int → List (ByteArray × Bool) → Option (Int)
  | 0, _, _, _ => Option.none
  | k + 1, l0, x12, o9 => (if x12 < (l0.length : Int) then (if 0 ≤ x12 then (if x12 < (l0.length : Int) then ((kit_IsMoment.f ((rdE e_IS l0 x12).1)).bind fun r3 => (if r3 = true then ((kit_IsName.f ((rdE e_IS l0 x12).2)).bind fun r4 => (if r4 = true then (if x12 > 0 then (if 0 ≤ wrap64 (x12 - 1) then (if wrap64 (x12 - 1) < (l0.length : Int) then (if (rdE e_IS l0 x12).1 ≤ (rdE e_IS l0 (wrap64 (x12 - 1))).1 then Option.some 7 else (if (rdE e_IS l0 x12).2 = (⟨#[]⟩ : ByteArray) then rate_CheckShifts.j15 k l0 x12 o9 else rate_CheckShifts.j15 k l0 x12 (mput o9 ((rdE e_IS l0 x12).2) true))) else Option.none) else Option.none) else (if (rdE e_IS l0 x12).2 = (⟨#[]⟩ : ByteArray) then rate_CheckShifts.j15 k l0 x12 o9 else rate_CheckShifts.j15 k l0 x12 (mput o9 ((rdE e_IS l0 x12).2) true))) else Option.some 5)) else Option.some 1)) else Option.none) else Option.none) else (if ((List.map Prod.fst o9).length : Int) > 50 then Option.some 2 else Option.some 0))
end
def rate_CheckShifts.f (k : Nat) (l0 : List (Int × ByteArray)) : Option (Int) := (if (l0.length : Int) > 500 then Option.some 2 else rate_CheckShifts.l0 k l0 0 ([] : List (ByteArray × Bool)))
theorem rate_CheckShifts.loops : ∀ k, (∀ (l0 : List (Int × ByteArray)) (x12 : Int) (o9j15 : List (ByteArray × Bool)), RS (fam Tryz.f32 [15] [] [] (fun r : Int => .int .i64 r) (fun r => [])) (Func.reg Tryz.f32 15) ⟨ofT [(0, sq e_IS l0), (3, .omap 9), (10, sq e_IS l0), (11, .int .i64 (l0.length : Int)), (12, .int .i64 x12)], ofL [(9, mapE KL.strs (false : Bool) AV.bool o9j15)]⟩ (rate_CheckShifts.j15 k l0 x12 o9j15)) ∧ (∀ (l0 : List (Int × ByteArray)) (x12 : Int) (o9 : List (ByteArray × Bool)), RS (fam Tryz.f32 [15] [] [] (fun r : Int => .int .i64 r) (fun r => [])) (Func.head Tryz.f32 0) ⟨ofT [(0, sq e_IS l0), (3, .omap 9), (10, sq e_IS l0), (11, .int .i64 (l0.length : Int)), (12, .int .i64 x12)], ofL [(9, mapE KL.strs (false : Bool) AV.bool o9)]⟩ (rate_CheckShifts.l0 k l0 x12 o9))
  | 0 => ⟨by intro _ _ _; simp only [rate_CheckShifts.j15]; exact RS.none, by intro _ _ _; simp only [rate_CheckShifts.l0]; exact RS.none⟩
  | k + 1 => by
    have ih := rate_CheckShifts.loops k
    refine ⟨?_, ?_⟩
    · intro l0 x12 o9j15
      simp only [rate_CheckShifts.j15]
      refine RS.region ?_
      refine RS.go ?_
      refine RT.goto rfl ?_
      refine RS.weak [(0, sq e_IS l0), (3, .omap 9), (10, sq e_IS l0), (11, .int .i64 (l0.length : Int)), (12, .int .i64 (wrap64 (x12 + 1)))] [(9, mapE KL.strs (false : Bool) AV.bool o9j15)] ⟨Le.eq (by first | rfl | simp), Le.eq (by first | rfl | simp), Le.eq (by first | rfl | simp), Le.eq (by first | rfl | simp), Le.eq (by first | rfl | simp), trivial⟩ ⟨⟨_, rfl, LeO.refl _⟩, trivial⟩ rfl (dom0 rfl) ?_
      exact ih.2 l0 (wrap64 (x12 + 1)) o9j15 
    · intro l0 x12 o9
      simp only [rate_CheckShifts.l0]
      refine RS.go ?_
      refine RT.br rfl (fun c14 => ?_) (fun c14 => ?_)
      · refine RT.br rfl (fun c1 => ?_) (fun c1 => RT.none)
        refine RT.br rfl (fun c2 => ?_) (fun c2 => RT.none)
        refine RT.call0 rfl (fun _ h => kit_IsMoment.ok ((rdE e_IS l0 x12).1) _ h) (LeL.eq rfl) (fun _ => rfl) (fun r3 => ?_)
        refine RS.go ?_
        refine RT.brBN rfl (fun c12 => ?_) (fun c12 => ?_)
        · refine RT.call0 rfl (fun _ h => kit_IsName.ok ((rdE e_IS l0 x12).2) _ h) (LeL.eq rfl) (fun _ => rfl) (fun r4 => ?_)
          refine RS.go ?_
          refine RT.brBN rfl (fun c11 => ?_) (fun c11 => ?_)
          · refine RT.goto rfl ?_
            refine RS.draw rfl ?_
            refine RD.br rfl (fun c10 => ?_) (fun c10 => ?_)
            · refine RD.brT rfl ?_
              refine RD.brT rfl ?_
              refine RD.brT rfl ?_
              refine RD.brT rfl ?_
              refine RD.brT rfl ?_
              refine RD.br rfl (fun c5 => ?_) (fun c5 => RD.none)
              refine RD.br rfl (fun c6 => ?_) (fun c6 => RD.none)
              refine RD.brT rfl ?_
              refine RD.brT rfl ?_
              refine RD.brT rfl ?_
              refine RD.brT rfl ?_
              refine RD.fin rate_CheckShifts.k0 rate_CheckShifts.k1 rfl rfl (by decide +kernel) ?_
              refine RS.go ?_
              refine RT.br rfl (fun c8 => ?_) (fun c8 => ?_)
              · exact RT.done rfl rfl (Le.refl _) trivial rfl (dom0 rfl)
              · refine RT.brN rfl (fun c7 => ?_) (fun c7 => ?_)
                · refine RT.goto rfl ?_
                  refine RS.weak [(0, sq e_IS l0), (3, .omap 9), (10, sq e_IS l0), (11, .int .i64 (l0.length : Int)), (12, .int .i64 x12)] [(9, mapE KL.strs (false : Bool) AV.bool o9)] ⟨Le.eq (by first | rfl | simp), Le.eq (by first | rfl | simp), Le.eq (by first | rfl | simp), Le.eq (by first | rfl | simp), Le.eq (by first | rfl | simp), trivial⟩ ⟨⟨_, rfl, LeO.refl _⟩, trivial⟩ rfl (dom0 rfl) ?_
                  exact ih.1 l0 x12 o9 
                · refine RT.goto rfl ?_
                  refine RS.obj 9 (mapE KL.strs (false : Bool) AV.bool (mput o9 ((rdE e_IS l0 x12).2) true)) ⟨_, rfl, LeO.putS⟩ ?_
                  refine RS.go ?_
                  refine RT.goto rfl ?_
                  refine RS.weak [(0, sq e_IS l0), (3, .omap 9), (10, sq e_IS l0), (11, .int .i64 (l0.length : Int)), (12, .int .i64 x12)] [(9, mapE KL.strs (false : Bool) AV.bool (mput o9 ((rdE e_IS l0 x12).2) true))] ⟨Le.eq (by first | rfl | simp), Le.eq (by first | rfl | simp), Le.eq (by first | rfl | simp), Le.eq (by first | rfl | simp), Le.eq (by first | rfl | simp), trivial⟩ ⟨⟨_, rfl, LeO.refl _⟩, trivial⟩ rfl (dom0 rfl) ?_
                  exact ih.1 l0 x12 (mput o9 ((rdE e_IS l0 x12).2) true) 
            · refine RD.brF rfl ?_
              refine RD.brF rfl ?_
              refine RD.brF rfl ?_
              refine RD.brF rfl ?_
              refine RD.brF rfl ?_
              refine RD.brF rfl ?_
              refine RD.brF rfl ?_
              refine RD.brF rfl ?_
              refine RD.brF rfl ?_
              refine RD.fin rate_CheckShifts.k2 rate_CheckShifts.k1 rfl rfl (by decide +kernel) ?_
              refine RS.go ?_
              refine RT.brF rfl ?_
              refine RT.brN rfl (fun c9 => ?_) (fun c9 => ?_)
              · refine RT.goto rfl ?_
                refine RS.weak [(0, sq e_IS l0), (3, .omap 9), (10, sq e_IS l0), (11, .int .i64 (l0.length : Int)), (12, .int .i64 x12)] [(9, mapE KL.strs (false : Bool) AV.bool o9)] ⟨Le.eq (by first | rfl | simp), Le.eq (by first | rfl | simp), Le.eq (by first | rfl | simp), Le.eq (by first | rfl | simp), Le.eq (by first | rfl | simp), trivial⟩ ⟨⟨_, rfl, LeO.refl _⟩, trivial⟩ rfl (dom0 rfl) ?_
                exact ih.1 l0 x12 o9 
              · refine RT.goto rfl ?_
                refine RS.obj 9 (mapE KL.strs (false : Bool) AV.bool (mput o9 ((rdE e_IS l0 x12).2) true)) ⟨_, rfl, LeO.putS⟩ ?_
                refine RS.go ?_
                refine RT.goto rfl ?_
                refine RS.weak [(0, sq e_IS l0), (3, .omap 9), (10, sq e_IS l0), (11, .int .i64 (l0.length : Int)), (12, .int .i64 x12)] [(9, mapE KL.strs (false : Bool) AV.bool (mput o9 ((rdE e_IS l0 x12).2) true))] ⟨Le.eq (by first | rfl | simp), Le.eq (by first | rfl | simp), Le.eq (by first | rfl | simp), Le.eq (by first | rfl | simp), Le.eq (by first | rfl | simp), trivial⟩ ⟨⟨_, rfl, LeO.refl _⟩, trivial⟩ rfl (dom0 rfl) ?_
                exact ih.1 l0 x12 (mput o9 ((rdE e_IS l0 x12).2) true) 
          · exact RT.done rfl rfl (Le.refl _) trivial rfl (dom0 rfl)
        · exact RT.done rfl rfl (Le.refl _) trivial rfl (dom0 rfl)
      · refine RT.br rfl (fun c13 => ?_) (fun c13 => ?_)
        · exact RT.done rfl rfl (Le.refl _) trivial rfl (dom0 rfl)
        · exact RT.done rfl rfl (Le.refl _) trivial rfl (dom0 rfl)
theorem rate_CheckShifts.ok (k : Nat) (l0 : List (Int × ByteArray)) (r : Int) (h : rate_CheckShifts.f k l0 = some r) : Ct Tryz.prog B 32 [sq e_IS l0] (ofL []) (.int .i64 r) (ofL []) := by
  refine Ct.of (Y := (fam Tryz.f32 [15] [] [] (fun r : Int => .int .i64 r) (fun r => []))) Tryz.func32 rfl Tryz.call32 rfl rfl ?_ r h
  unfold rate_CheckShifts.f
  refine RS.go ?_
  refine RT.br rfl (fun c15 => ?_) (fun c15 => ?_)
  · exact RT.done rfl rfl (Le.refl _) trivial rfl (dom0 rfl)
  · refine RT.goto rfl ?_
    refine RS.weak [(0, sq e_IS l0), (3, .omap 9), (10, sq e_IS l0), (11, .int .i64 (l0.length : Int)), (12, .int .i64 0)] [(9, mapE KL.strs (false : Bool) AV.bool ([] : List (ByteArray × Bool)))] ⟨Le.eq (by first | rfl | simp), Le.eq (by first | rfl | simp), Le.eq (by first | rfl | simp), Le.eq (by first | rfl | simp), Le.eq (by first | rfl | simp), trivial⟩ ⟨⟨_, rfl, LeO.refl _⟩, trivial⟩ rfl (dom0 rfl) ?_
    exact (rate_CheckShifts.loops k).2 l0 0 ([] : List (ByteArray × Bool)) 
/-! ### rate_longs: function 33 -/
mutual
def rate_longs.j11 : Nat → List (Int × ByteArray) → Int → Int → Int → List (ByteArray × Int) → Option ((List (ByteArray × Int)))
  | 0, _, _, _, _, _ => Option.none
  | k + 1, l0, a1_0, a1_1, x13, o10j11 => rate_longs.l0 k l0 a1_0 a1_1 (wrap64 (x13 + 1)) o10j11
def rate_longs.j8 : Nat → List (Int × ByteArray) → Int → Int → Int → List (ByteArray × Int) → Int → Option ((List (ByteArray × Int)))
  | 0, _, _, _, _, _, _ => Option.none
  | k + 1, l0, a1_0, a1_1, x13, o10, x8j8 => (if wrap64 ((mn x8j8 a1_1) - (mx ((rdE e_IS l0 x13).1) a1_0)) > 0 then (if (rdE e_IS l0 x13).2 = (⟨#[]⟩ : ByteArray) then rate_longs.j11 k l0 a1_0 a1_1 x13 o10 else rate_longs.j11 k l0 a1_0 a1_1 x13 (mput o10 ((rdE e_IS l0 x13).2) (wrap64 ((mget (0 : Int) o10 ((rdE e_IS l0 x13).2)) + (wrap64 ((mn x8j8 a1_1) - (mx ((rdE e_IS l0 x13).1) a1_0))))))) else rate_longs.j11 k l0 a1_0 a1_1 x13 o10)
def rate_longs.l0 : Nat → List (Int × ByteArray) → Int → Int → Int → List (ByteArray × Int) → Option ((List (ByteArray × Int)))
  | 0, _, _, _, _, _ => Option.none
  | k + 1, l0, a1_0, a1_1, x13, o10 => (if x13 < (l0.length : Int) then (if 0 ≤ x13 then (if x13 < (l0.length : Int) then (if wrap64 (x13 + 1) < (l0.length : Int) then (if 0 ≤ wrap64 (x13 + 1) then (if wrap64 (x13 + 1) < (l0.length : Int) then rate_longs.j8 k l0 a1_0 a1_1 x13 o10 ((rdE e_IS l0 (wrap64 (x13 + 1))).1) else Option.none) else Option.none) else rate_longs.j8 k l0 a1_0 a1_1 x13 o10 345686400000) else Option.none) else Option.none) else Option.some o10)
end
def rate_longs.f (k : Nat) (l0 : List (Int × ByteArray)) (a1_0 : Int) (a1_1 : Int) : Option ((List (ByteArray × Int))) := rate_longs.l0 k l0 a1_0 a1_1 0 ([] : List (ByteArray × Int))
theorem rate_longs.loops : ∀ k, (∀ (l0 : List (Int × ByteArray)) (a1_0 : Int) (a1_1 : Int) (x13 : Int) (o10j11 : List (ByteArray × Int)), RS (fam Tryz.f33 [8, 11] [] [] (fun r : (List (ByteArray × Int)) => .omap 10) (fun r => [(10, mapE KL.strs (0 : Int) (AV.int .i64) r)])) (Func.reg Tryz.f33 11) ⟨ofT [(0, sq e_IS l0), (3, .ref 3 0 0 0 2), (5, .omap 10), (11, sq e_IS l0), (12, .int .i64 (l0.length : Int)), (13, .int .i64 x13)], ofL [(3, .box [.int .i64 a1_0, .int .i64 a1_1]), (10, mapE KL.strs (0 : Int) (AV.int .i64) o10j11)]⟩ (rate_longs.j11 k l0 a1_0 a1_1 x13 o10j11)) ∧ (∀ (l0 : List (Int × ByteArray)) (a1_0 : Int) (a1_1 : Int) (x13 : Int) (o10 : List (ByteArray × Int)) (x8j8 : Int), RS (fam Tryz.f33 [8, 11] [] [] (fun r : (List (ByteArray × Int)) => .omap 10) (fun r => [(10, mapE KL.strs (0 : Int) (AV.int .i64) r)])) (Func.reg Tryz.f33 8) ⟨ofT [(0, sq e_IS l0), (3, .ref 3 0 0 0 2), (5, .omap 10), (7, .ref 7 0 0 0 2), (8, .int .i64 x8j8), (11, sq e_IS l0), (12, .int .i64 (l0.length : Int)), (13, .int .i64 x13)], ofL [(3, .box [.int .i64 a1_0, .int .i64 a1_1]), (7, .box [.int .i64 ((rdE e_IS l0 x13).1), .str ((rdE e_IS l0 x13).2)]), (10, mapE KL.strs (0 : Int) (AV.int .i64) o10)]⟩ (rate_longs.j8 k l0 a1_0 a1_1 x13 o10 x8j8)) ∧ (∀ (l0 : List (Int × ByteArray)) (a1_0 : Int) (a1_1 : Int) (x13 : Int) (o10 : List (ByteArray × Int)), RS (fam Tryz.f33 [8, 11] [] [] (fun r : (List (ByteArray × Int)) => .omap 10) (fun r => [(10, mapE KL.strs (0 : Int) (AV.int .i64) r)])) (Func.head Tryz.f33 0) ⟨ofT [(0, sq e_IS l0), (3, .ref 3 0 0 0 2), (5, .omap 10), (11, sq e_IS l0), (12, .int .i64 (l0.length : Int)), (13, .int .i64 x13)], ofL [(3, .box [.int .i64 a1_0, .int .i64 a1_1]), (10, mapE KL.strs (0 : Int) (AV.int .i64) o10)]⟩ (rate_longs.l0 k l0 a1_0 a1_1 x13 o10))
  | 0 => ⟨by intro _ _ _ _ _; simp only [rate_longs.j11]; exact RS.none, by intro _ _ _ _ _ _; simp only [rate_longs.j8]; exact RS.none, by intro _ _ _ _ _; simp only [rate_longs.l0]; exact RS.none⟩
  | k + 1 => by
    have ih := rate_longs.loops k
    refine ⟨?_, ?_, ?_⟩
    · intro l0 a1_0 a1_1 x13 o10j11
      simp only [rate_longs.j11]
      refine RS.region ?_
      refine RS.go ?_
      refine RT.goto rfl ?_
      refine RS.weak [(0, sq e_IS l0), (3, .ref 3 0 0 0 2), (5, .omap 10), (11, sq e_IS l0), (12, .int .i64 (l0.length : Int)), (13, .int .i64 (wrap64 (x13 + 1)))] [(3, .box [.int .i64 a1_0, .int .i64 a1_1]), (10, mapE KL.strs (0 : Int) (AV.int .i64) o10j11)] ⟨Le.eq (by first | rfl | simp), Le.eq (by first | rfl | simp), Le.eq (by first | rfl | simp), Le.eq (by first | rfl | simp), Le.eq (by first | rfl | simp), Le.eq (by first | rfl | simp), trivial⟩ ⟨⟨_, rfl, LeO.refl _⟩, ⟨_, rfl, LeO.refl _⟩, trivial⟩ rfl (dom0 rfl) ?_
      exact ih.2.2 l0 a1_0 a1_1 (wrap64 (x13 + 1)) o10j11 
    · intro l0 a1_0 a1_1 x13 o10 x8j8
      simp only [rate_longs.j8]
      refine RS.region ?_
      refine RS.go ?_
      refine RT.br rfl (fun c6 => ?_) (fun c6 => ?_)
      · refine RT.brT rfl ?_
        refine RT.brT rfl ?_
        refine RT.brT rfl ?_
        refine RT.brN rfl (fun c5 => ?_) (fun c5 => ?_)
        · refine RT.goto rfl ?_
          refine RS.weak [(0, sq e_IS l0), (3, .ref 3 0 0 0 2), (5, .omap 10), (11, sq e_IS l0), (12, .int .i64 (l0.length : Int)), (13, .int .i64 x13)] [(3, .box [.int .i64 a1_0, .int .i64 a1_1]), (10, mapE KL.strs (0 : Int) (AV.int .i64) o10)] ⟨Le.eq (by first | rfl | simp), Le.eq (by first | rfl | simp), Le.eq (by first | rfl | simp), Le.eq (by first | rfl | simp), Le.eq (by first | rfl | simp), Le.eq (by first | rfl | simp), trivial⟩ ⟨⟨_, rfl, LeO.refl _⟩, ⟨_, rfl, LeO.refl _⟩, trivial⟩ rfl (dom0 rfl) ?_
          exact ih.1 l0 a1_0 a1_1 x13 o10 
        · refine RT.req rfl (congrArg (AV.int .i64) (map_end (l := o10) (d := (0 : Int)))) ?_
          refine RT.goto rfl ?_
          refine RS.obj 10 (mapE KL.strs (0 : Int) (AV.int .i64) (mput o10 ((rdE e_IS l0 x13).2) (wrap64 ((mget (0 : Int) o10 ((rdE e_IS l0 x13).2)) + (wrap64 ((mn x8j8 a1_1) - (mx ((rdE e_IS l0 x13).1) a1_0))))))) ⟨_, rfl, LeO.putS⟩ ?_
          refine RS.go ?_
          refine RT.goto rfl ?_
          refine RS.weak [(0, sq e_IS l0), (3, .ref 3 0 0 0 2), (5, .omap 10), (11, sq e_IS l0), (12, .int .i64 (l0.length : Int)), (13, .int .i64 x13)] [(3, .box [.int .i64 a1_0, .int .i64 a1_1]), (10, mapE KL.strs (0 : Int) (AV.int .i64) (mput o10 ((rdE e_IS l0 x13).2) (wrap64 ((mget (0 : Int) o10 ((rdE e_IS l0 x13).2)) + (wrap64 ((mn x8j8 a1_1) - (mx ((rdE e_IS l0 x13).1) a1_0)))))))] ⟨Le.eq (by first | rfl | simp), Le.eq (by first | rfl | simp), Le.eq (by first | rfl | simp), Le.eq (by first | rfl | simp), Le.eq (by first | rfl | simp), Le.eq (by first | rfl | simp), trivial⟩ ⟨⟨_, rfl, LeO.refl _⟩, ⟨_, rfl, LeO.refl _⟩, trivial⟩ rfl (dom0 rfl) ?_
          exact ih.1 l0 a1_0 a1_1 x13 (mput o10 ((rdE e_IS l0 x13).2) (wrap64 ((mget (0 : Int) o10 ((rdE e_IS l0 x13).2)) + (wrap64 ((mn x8j8 a1_1) - (mx ((rdE e_IS l0 x13).1) a1_0)))))) 
      · refine RT.brF rfl ?_
        refine RT.brF rfl ?_
        refine RT.brF rfl ?_
        refine RT.brF rfl ?_
        refine RT.goto rfl ?_
        refine RS.weak [(0, sq e_IS l0), (3, .ref 3 0 0 0 2), (5, .omap 10), (11, sq e_IS l0), (12, .int .i64 (l0.length : Int)), (13, .int .i64 x13)] [(3, .box [.int .i64 a1_0, .int .i64 a1_1]), (10, mapE KL.strs (0 : Int) (AV.int .i64) o10)] ⟨Le.eq (by first | rfl | simp), Le.eq (by first | rfl | simp), Le.eq (by first | rfl | simp), Le.eq (by first | rfl | simp), Le.eq (by first | rfl | simp), Le.eq (by first | rfl | simp), trivial⟩ ⟨⟨_, rfl, LeO.refl _⟩, ⟨_, rfl, LeO.refl _⟩, trivial⟩ rfl (dom0 rfl) ?_
        exact ih.1 l0 a1_0 a1_1 x13 o10 
    · intro l0 a1_0 a1_1 x13 o10
      simp only [rate_longs.l0]
      refine RS.go ?_
      refine RT.br rfl (fun c8 => ?_) (fun c8 => ?_)
      · refine RT.br rfl (fun c1 => ?_) (fun c1 => RT.none)
        refine RT.br rfl (fun c2 => ?_) (fun c2 => RT.none)
        refine RT.br rfl (fun c7 => ?_) (fun c7 => ?_)
        · refine RT.br rfl (fun c3 => ?_) (fun c3 => RT.none)
          refine RT.br rfl (fun c4 => ?_) (fun c4 => RT.none)
          refine RT.goto rfl ?_
          refine RS.weak [(0, sq e_IS l0), (3, .ref 3 0 0 0 2), (5, .omap 10), (7, .ref 7 0 0 0 2), (8, .int .i64 ((rdE e_IS l0 (wrap64 (x13 + 1))).1)), (11, sq e_IS l0), (12, .int .i64 (l0.length : Int)), (13, .int .i64 x13)] [(3, .box [.int .i64 a1_0, .int .i64 a1_1]), (7, .box [.int .i64 ((rdE e_IS l0 x13).1), .str ((rdE e_IS l0 x13).2)]), (10, mapE KL.strs (0 : Int) (AV.int .i64) o10)] ⟨Le.eq (by first | rfl | simp), Le.eq (by first | rfl | simp), Le.eq (by first | rfl | simp), Le.eq (by first | rfl | simp), Le.eq (by first | rfl | simp), Le.eq (by first | rfl | simp), Le.eq (by first | rfl | simp), Le.eq (by first | rfl | simp), trivial⟩ ⟨⟨_, rfl, LeO.refl _⟩, ⟨_, rfl, LeO.refl _⟩, ⟨_, rfl, LeO.refl _⟩, trivial⟩ rfl (dom0 rfl) ?_
          exact ih.2.1 l0 a1_0 a1_1 x13 o10 ((rdE e_IS l0 (wrap64 (x13 + 1))).1) 
        · refine RT.goto rfl ?_
          refine RS.weak [(0, sq e_IS l0), (3, .ref 3 0 0 0 2), (5, .omap 10), (7, .ref 7 0 0 0 2), (8, .int .i64 345686400000), (11, sq e_IS l0), (12, .int .i64 (l0.length : Int)), (13, .int .i64 x13)] [(3, .box [.int .i64 a1_0, .int .i64 a1_1]), (7, .box [.int .i64 ((rdE e_IS l0 x13).1), .str ((rdE e_IS l0 x13).2)]), (10, mapE KL.strs (0 : Int) (AV.int .i64) o10)] ⟨Le.eq (by first | rfl | simp), Le.eq (by first | rfl | simp), Le.eq (by first | rfl | simp), Le.eq (by first | rfl | simp), Le.eq (by first | rfl | simp), Le.eq (by first | rfl | simp), Le.eq (by first | rfl | simp), Le.eq (by first | rfl | simp), trivial⟩ ⟨⟨_, rfl, LeO.refl _⟩, ⟨_, rfl, LeO.refl _⟩, ⟨_, rfl, LeO.refl _⟩, trivial⟩ rfl (dom0 rfl) ?_
          exact ih.2.1 l0 a1_0 a1_1 x13 o10 345686400000 
      · exact RT.done rfl rfl (Le.refl _) ⟨⟨_, rfl, LeO.refl _⟩, trivial⟩ rfl (dom0 rfl)
theorem rate_longs.ok (k : Nat) (l0 : List (Int × ByteArray)) (a1_0 : Int) (a1_1 : Int) (r : (List (ByteArray × Int))) (h : rate_longs.f k l0 a1_0 a1_1 = some r) : Ct Tryz.prog B 33 [sq e_IS l0, .agg [.int .i64 a1_0, .int .i64 a1_1]] (ofL []) (.omap 10) (ofL [(10, mapE KL.strs (0 : Int) (AV.int .i64) r)]) := by
  refine Ct.of (Y := (fam Tryz.f33 [8, 11] [] [] (fun r : (List (ByteArray × Int)) => .omap 10) (fun r => [(10, mapE KL.strs (0 : Int) (AV.int .i64) r)]))) Tryz.func33 rfl Tryz.call33 rfl rfl ?_ r h
  unfold rate_longs.f
  refine RS.go ?_
  refine RT.goto rfl ?_
  refine RS.weak [(0, sq e_IS l0), (3, .ref 3 0 0 0 2), (5, .omap 10), (11, sq e_IS l0), (12, .int .i64 (l0.length : Int)), (13, .int .i64 0)] [(3, .box [.int .i64 a1_0, .int .i64 a1_1]), (10, mapE KL.strs (0 : Int) (AV.int .i64) ([] : List (ByteArray × Int)))] ⟨Le.eq (by first | rfl | simp), Le.eq (by first | rfl | simp), Le.eq (by first | rfl | simp), Le.eq (by first | rfl | simp), Le.eq (by first | rfl | simp), Le.eq (by first | rfl | simp), trivial⟩ ⟨⟨_, rfl, LeO.refl _⟩, ⟨_, rfl, LeO.refl _⟩, trivial⟩ rfl (dom0 rfl) ?_
  exact (rate_longs.loops k).2.2 l0 a1_0 a1_1 0 ([] : List (ByteArray × Int)) 
end Go.EV
