/- Printed by a program of this session: a Lean function for each function that the law reaches, and that the code comes to it. -/
import Derived.Test.YtmcaongkodmbjaaDoorEvS
set_option linter.unusedVariables false
set_option linter.unusedSimpArgs false
namespace Go.EV
open Go Go.Proofs Go.RowKit
set_option maxHeartbeats 4000000
set_option maxRecDepth 100000
set_option linter.unusedVariables false
def str_0 : ByteArray := ⟨#[97, 98, 99, 100, 101, 102, 103, 104, 105, 106, 107, 108, 109, 110, 111, 112, 113, 114, 115, 116, 117, 118, 119, 120, 121, 122, 48, 49, 50, 51, 52, 53, 54, 55, 56, 57, 45, 95]⟩
def str_1 : ByteArray := ⟨#[97, 98, 99, 100, 101, 102, 103, 104, 105, 106, 107, 108, 109, 110, 111, 112, 113, 114, 115, 116, 117, 118, 119, 120, 121, 122]⟩
def e_IS.c : (Int × ByteArray) → Nat → AV
  | x, 0 => .int .i64 x.1
  | x, _ => .str x.2
def e_IS : Enc (Int × ByteArray) := ⟨2, (0, ByteArray.empty), e_IS.c⟩
def e_SII.c : (ByteArray × Int × Int) → Nat → AV
  | x, 0 => .str x.1
  | x, 1 => .int .i64 x.2.1
  | x, _ => .int .i64 x.2.2
def e_SII : Enc (ByteArray × Int × Int) := ⟨3, (ByteArray.empty, 0, 0), e_SII.c⟩
/-! ### pilemake_Below: function 59 -/
def pilemake_Below.j6 : Nat → Int → Option (Int)
  | 0, _ => Option.none
  | k + 1, x0j6 => Option.some x0j6
def pilemake_Below.f (k : Nat) (a0 : Int) (a1 : Int) : Option (Int) := (if a1 < 1 then Option.some 0 else (if a1 = 0 then Option.none else (if Int.tmod a0 a1 < 0 then pilemake_Below.j6 k (wrap64 ((Int.tmod a0 a1) + a1)) else pilemake_Below.j6 k (Int.tmod a0 a1))))
theorem pilemake_Below.loops : ∀ k, (∀ (x0j6 : Int), RS (fam Tryd.f59 [6] [] [] (fun r : Int => .int .i64 r) (fun r => [])) (Func.reg Tryd.f59 6) ⟨ofT [(0, .int .i64 x0j6)], ofL []⟩ (pilemake_Below.j6 k x0j6))
  | 0 => by intro _; simp only [pilemake_Below.j6]; exact RS.none
  | k + 1 => by
    have ih := pilemake_Below.loops k
    · intro x0j6
      simp only [pilemake_Below.j6]
      refine RS.region ?_
      refine RS.go ?_
      exact RT.done rfl rfl (Le.refl _) trivial rfl (dom0 rfl)
theorem pilemake_Below.ok (k : Nat) (a0 : Int) (a1 : Int) (r : Int) (h : pilemake_Below.f k a0 a1 = some r) : Ct Tryd.prog B 59 [.int .i64 a0, .int .i64 a1] (ofL []) (.int .i64 r) (ofL []) := by
  refine Ct.of (Y := (fam Tryd.f59 [6] [] [] (fun r : Int => .int .i64 r) (fun r => []))) Tryd.func59 rfl Tryd.call59 rfl rfl ?_ r h
  unfold pilemake_Below.f
  refine RS.go ?_
  refine RT.br rfl (fun c3 => ?_) (fun c3 => ?_)
  · exact RT.done rfl rfl (Le.refl _) trivial rfl (dom0 rfl)
  · refine RT.br rfl (fun _ => RT.none) (fun c2 => ?_)
    refine RT.br rfl (fun c1 => ?_) (fun c1 => ?_)
    · refine RT.goto rfl ?_
      refine RS.weak [(0, .int .i64 (wrap64 ((Int.tmod a0 a1) + a1)))] [] ⟨Le.eq (by first | rfl | simp), trivial⟩ trivial rfl (dom0 rfl) ?_
      exact pilemake_Below.loops k (wrap64 ((Int.tmod a0 a1) + a1)) 
    · refine RT.goto rfl ?_
      refine RS.weak [(0, .int .i64 (Int.tmod a0 a1))] [] ⟨Le.eq (by first | rfl | simp), trivial⟩ trivial rfl (dom0 rfl) ?_
      exact pilemake_Below.loops k (Int.tmod a0 a1) 
/-! ### pilemake_Stream_Next: function 30 -/
def pilemake_Stream_Next.k0 : List DK := [⟨[48], [], [6], []⟩, ⟨[42, 47], [], [48], []⟩, ⟨[46], [], [47], []⟩, ⟨[45], [100000], [46], []⟩, ⟨[44], [100000], [45], []⟩, ⟨[43], [100000], [44], []⟩, ⟨[0], [], [43], []⟩, ⟨[41], [], [42], []⟩, ⟨[40], [100000], [41], []⟩, ⟨[39], [100000], [40], []⟩, ⟨[38], [100000], [39], []⟩, ⟨[0], [], [38], []⟩]
def pilemake_Stream_Next.k1 : List Nat := [0, 1, 3, 7, 15, 0, 32, 96, 224, 480, 1023, 2047]
def pilemake_Stream_Next.k2 : List DK := [⟨[37], [], [5], []⟩, ⟨[31, 36], [], [37], []⟩, ⟨[35], [], [36], []⟩, ⟨[34], [100000], [35], []⟩, ⟨[33], [100000], [34], []⟩, ⟨[32], [100000], [33], []⟩, ⟨[0], [], [32], []⟩, ⟨[30], [], [31], []⟩, ⟨[29], [100000], [30], []⟩, ⟨[28], [100000], [29], []⟩, ⟨[27], [100000], [28], []⟩, ⟨[0], [], [27], []⟩]
def pilemake_Stream_Next.f (k : Nat) (p0_0 : List Int) (p0_1 : Int) (a1 : Int) : Option (Int × (List Int) × Int) := (if (p0_0.length : Int) = 0 then ((pilemake_Below.f k (wrap64 ((wrap64 (p0_1 + 1)) * 7919)) a1).bind fun r1 => Option.some (r1, p0_0, wrap64 (p0_1 + 1))) else (if (p0_0.length : Int) = 0 then Option.none else (if (p0_0.length : Int) = 0 then Option.none else (if 0 ≤ Int.tmod (wrap64 ((wrap64 (p0_1 + 1)) - 1)) (p0_0.length : Int) then (if Int.tmod (wrap64 ((wrap64 (p0_1 + 1)) - 1)) (p0_0.length : Int) < (p0_0.length : Int) then ((pilemake_Below.f k (rd p0_0 (Int.tmod (wrap64 ((wrap64 (p0_1 + 1)) - 1)) (p0_0.length : Int))) 1073741824).bind fun r4 => ((pilemake_Below.f k (wrap64 (r4 + (wrap64 ((wrap64 (Int.tdiv (wrap64 ((wrap64 (p0_1 + 1)) - 1)) (p0_0.length : Int))) * (wrap64 (7919 + (Int.tmod (wrap64 ((wrap64 (p0_1 + 1)) - 1)) (p0_0.length : Int)))))))) a1).bind fun r5 => Option.some (r5, p0_0, wrap64 (p0_1 + 1)))) else Option.none) else Option.none))))
theorem pilemake_Stream_Next.ok (k : Nat) (p0_0 : List Int) (p0_1 : Int) (a1 : Int) (r : Int × (List Int) × Int) (h : pilemake_Stream_Next.f k p0_0 p0_1 a1 = some r) : Ct Tryd.prog B 30 [.ref 100000 0 0 0 2, .int .i64 a1] (ofL [(100000, .box [sq eI p0_0, .int .i64 p0_1])]) (.int .i64 r.1) (ofL [(100000, .box [sq eI r.2.1, .int .i64 r.2.2])]) := by
  refine Ct.of (Y := (fam Tryd.f30 [] [] [(100000, .box [sq eI p0_0, .int .i64 p0_1])] (fun r : Int × (List Int) × Int => .int .i64 r.1) (fun r => [(100000, .box [sq eI r.2.1, .int .i64 r.2.2])]))) Tryd.func30 rfl Tryd.call30 rfl rfl ?_ r h
  unfold pilemake_Stream_Next.f
  refine RS.go ?_
  refine RT.br rfl (fun c8 => ?_) (fun c8 => ?_)
  · refine RT.call0 rfl (fun _ h => pilemake_Below.ok k (wrap64 ((wrap64 (p0_1 + 1)) * 7919)) a1 _ h) (LeL.eq rfl) (fun _ => rfl) (fun r1 => ?_)
    refine RS.go ?_
    exact RT.done rfl rfl (Le.refl _) ⟨⟨_, rfl, LeO.refl _⟩, trivial⟩ rfl (dom_of rfl)
  · refine RT.goto rfl ?_
    refine RS.draw rfl ?_
    refine RD.br rfl (fun _ => RD.none) (fun c7 => ?_)
    refine RD.fin pilemake_Stream_Next.k2 pilemake_Stream_Next.k1 rfl rfl (by decide +kernel) ?_
    refine RS.go ?_
    refine RT.goto rfl ?_
    refine RS.draw rfl ?_
    refine RD.br rfl (fun _ => RD.none) (fun c6 => ?_)
    refine RD.fin pilemake_Stream_Next.k0 pilemake_Stream_Next.k1 rfl rfl (by decide +kernel) ?_
    refine RS.go ?_
    refine RT.br rfl (fun c2 => ?_) (fun c2 => RT.none)
    refine RT.br rfl (fun c3 => ?_) (fun c3 => RT.none)
    refine RT.call0 rfl (fun _ h => pilemake_Below.ok k (rd p0_0 (Int.tmod (wrap64 ((wrap64 (p0_1 + 1)) - 1)) (p0_0.length : Int))) 1073741824 _ h) (LeL.eq rfl) (fun _ => rfl) (fun r4 => ?_)
    refine RS.go ?_
    refine RT.call0 rfl (fun _ h => pilemake_Below.ok k (wrap64 (r4 + (wrap64 ((wrap64 (Int.tdiv (wrap64 ((wrap64 (p0_1 + 1)) - 1)) (p0_0.length : Int))) * (wrap64 (7919 + (Int.tmod (wrap64 ((wrap64 (p0_1 + 1)) - 1)) (p0_0.length : Int)))))))) a1 _ h) (LeL.eq rfl) (fun _ => rfl) (fun r5 => ?_)
    refine RS.go ?_
    exact RT.done rfl rfl (Le.refl _) ⟨⟨_, rfl, LeO.refl _⟩, trivial⟩ rfl (dom_of rfl)
/-! ### pilemake_Stream_Pick: function 7 -/
def pilemake_Stream_Pick.f (k : Nat) (p0_0 : List Int) (p0_1 : Int) (l1 : List Int) : Option (Int × (List Int) × Int) := ((pilemake_Stream_Next.f k p0_0 p0_1 (l1.length : Int)).bind fun r1 => (if 0 ≤ r1.1 then (if r1.1 < (l1.length : Int) then Option.some ((rd l1 r1.1), r1.2.1, r1.2.2) else Option.none) else Option.none))
theorem pilemake_Stream_Pick.ok (k : Nat) (p0_0 : List Int) (p0_1 : Int) (l1 : List Int) (r : Int × (List Int) × Int) (h : pilemake_Stream_Pick.f k p0_0 p0_1 l1 = some r) : Ct Tryd.prog B 7 [.ref 100000 0 0 0 2, sq eI l1] (ofL [(100000, .box [sq eI p0_0, .int .i64 p0_1])]) (.int .i64 r.1) (ofL [(100000, .box [sq eI r.2.1, .int .i64 r.2.2])]) := by
  refine Ct.of (Y := (fam Tryd.f7 [] [] [(100000, .box [sq eI p0_0, .int .i64 p0_1])] (fun r : Int × (List Int) × Int => .int .i64 r.1) (fun r => [(100000, .box [sq eI r.2.1, .int .i64 r.2.2])]))) Tryd.func7 rfl Tryd.call7 rfl rfl ?_ r h
  unfold pilemake_Stream_Pick.f
  refine RS.go ?_
  refine RT.call rfl (fun _ h => pilemake_Stream_Next.ok k p0_0 p0_1 (l1.length : Int) _ h) (fun i => bif Nat.beq i 100000 then 100000 else i) (LeL.eq rfl) ⟨⟨_, rfl, LeO.refl _⟩, trivial⟩ (fun _ => rfl) (fun r1 => ?_)
  refine RS.go ?_
  refine RT.br rfl (fun c2 => ?_) (fun c2 => RT.none)
  refine RT.br rfl (fun c3 => ?_) (fun c3 => RT.none)
  exact RT.done rfl rfl (Le.refl _) ⟨⟨_, rfl, LeO.refl _⟩, trivial⟩ rfl (dom_of rfl)
/-! ### pilemake_Stream_Range: function 27 -/
def pilemake_Stream_Range.f (k : Nat) (p0_0 : List Int) (p0_1 : Int) (a1 : Int) (a2 : Int) : Option (Int × (List Int) × Int) := (if a2 < a1 then Option.some (a1, p0_0, p0_1) else ((pilemake_Stream_Next.f k p0_0 p0_1 (wrap64 ((wrap64 (a2 - a1)) + 1))).bind fun r1 => Option.some (wrap64 (a1 + r1.1), r1.2.1, r1.2.2)))
theorem pilemake_Stream_Range.ok (k : Nat) (p0_0 : List Int) (p0_1 : Int) (a1 : Int) (a2 : Int) (r : Int × (List Int) × Int) (h : pilemake_Stream_Range.f k p0_0 p0_1 a1 a2 = some r) : Ct Tryd.prog B 27 [.ref 100000 0 0 0 2, .int .i64 a1, .int .i64 a2] (ofL [(100000, .box [sq eI p0_0, .int .i64 p0_1])]) (.int .i64 r.1) (ofL [(100000, .box [sq eI r.2.1, .int .i64 r.2.2])]) := by
  refine Ct.of (Y := (fam Tryd.f27 [] [] [(100000, .box [sq eI p0_0, .int .i64 p0_1])] (fun r : Int × (List Int) × Int => .int .i64 r.1) (fun r => [(100000, .box [sq eI r.2.1, .int .i64 r.2.2])]))) Tryd.func27 rfl Tryd.call27 rfl rfl ?_ r h
  unfold pilemake_Stream_Range.f
  refine RS.go ?_
  refine RT.br rfl (fun c2 => ?_) (fun c2 => ?_)
  · exact RT.done rfl rfl (Le.refl _) ⟨⟨_, rfl, LeO.refl _⟩, trivial⟩ rfl (dom_of rfl)
  · refine RT.call rfl (fun _ h => pilemake_Stream_Next.ok k p0_0 p0_1 (wrap64 ((wrap64 (a2 - a1)) + 1)) _ h) (fun i => bif Nat.beq i 100000 then 100000 else i) (LeL.eq rfl) ⟨⟨_, rfl, LeO.refl _⟩, trivial⟩ (fun _ => rfl) (fun r1 => ?_)
    refine RS.go ?_
    exact RT.done rfl rfl (Le.refl _) ⟨⟨_, rfl, LeO.refl _⟩, trivial⟩ rfl (dom_of rfl)
/-! ### pilemake_Stream_Flip: function 28 -/
def pilemake_Stream_Flip.f (k : Nat) (p0_0 : List Int) (p0_1 : Int) (a1 : Int) : Option (Bool × (List Int) × Int) := ((pilemake_Stream_Next.f k p0_0 p0_1 a1).bind fun r1 => Option.some ((decide (r1.1 = 0)), r1.2.1, r1.2.2))
theorem pilemake_Stream_Flip.ok (k : Nat) (p0_0 : List Int) (p0_1 : Int) (a1 : Int) (r : Bool × (List Int) × Int) (h : pilemake_Stream_Flip.f k p0_0 p0_1 a1 = some r) : Ct Tryd.prog B 28 [.ref 100000 0 0 0 2, .int .i64 a1] (ofL [(100000, .box [sq eI p0_0, .int .i64 p0_1])]) (.bool r.1) (ofL [(100000, .box [sq eI r.2.1, .int .i64 r.2.2])]) := by
  refine Ct.of (Y := (fam Tryd.f28 [] [] [(100000, .box [sq eI p0_0, .int .i64 p0_1])] (fun r : Bool × (List Int) × Int => .bool r.1) (fun r => [(100000, .box [sq eI r.2.1, .int .i64 r.2.2])]))) Tryd.func28 rfl Tryd.call28 rfl rfl ?_ r h
  unfold pilemake_Stream_Flip.f
  refine RS.go ?_
  refine RT.call rfl (fun _ h => pilemake_Stream_Next.ok k p0_0 p0_1 a1 _ h) (fun i => bif Nat.beq i 100000 then 100000 else i) (LeL.eq rfl) ⟨⟨_, rfl, LeO.refl _⟩, trivial⟩ (fun _ => rfl) (fun r1 => ?_)
  refine RS.go ?_
  exact RT.done rfl rfl (Le.refl _) ⟨⟨_, rfl, LeO.refl _⟩, trivial⟩ rfl (dom_of rfl)
/-! ### pilemake_Stream_TimesOf: function 5 -/
def pilemake_Stream_TimesOf.k0 : List DK := [⟨[3, 69], [3], [], [3]⟩, ⟨[68], [], [2], []⟩, ⟨[4], [4], [69], []⟩, ⟨[5], [], [68], []⟩]
def pilemake_Stream_TimesOf.k1 : List Nat := [0, 0, 1, 7]
def pilemake_Stream_TimesOf.k2 : List DK := [⟨[33, 42], [], [43], []⟩, ⟨[33, 39, 41], [], [42], []⟩, ⟨[33, 40], [4], [41], []⟩, ⟨[33, 4], [4], [40], []⟩, ⟨[33, 38], [5], [39], []⟩, ⟨[33, 34, 37], [5], [38], []⟩, ⟨[33, 36], [], [37], []⟩, ⟨[33, 35], [5], [36], []⟩, ⟨[33, 5], [], [35], []⟩, ⟨[33, 5], [], [34], []⟩, ⟨[32], [], [33], []⟩, ⟨[31], [], [32], []⟩, ⟨[30], [5], [31], []⟩, ⟨[5], [], [30], []⟩]
def pilemake_Stream_TimesOf.k3 : List Nat := [0, 1, 3, 7, 15, 15, 47, 111, 255, 511, 15, 1039, 4095, 8191]
def pilemake_Stream_TimesOf.k4 : List DK := [⟨[33, 42], [], [43], []⟩, ⟨[33], [], [42], []⟩, ⟨[33], [], [41], []⟩, ⟨[33], [], [40], []⟩, ⟨[33], [], [39], []⟩, ⟨[33], [], [38], []⟩, ⟨[33], [], [37], []⟩, ⟨[33], [], [36], []⟩, ⟨[33], [], [35], []⟩, ⟨[33], [], [34], []⟩, ⟨[32], [], [33], []⟩, ⟨[31], [], [32], []⟩, ⟨[30], [5], [31], []⟩, ⟨[5], [], [30], []⟩]
mutual
def pilemake_Stream_TimesOf.j14 : Nat → Int → Int → List Int → List Int → Int → Option ((List Int) × Int × Int × (List Int) × Int)
  | 0, _, _, _, _, _ => Option.none
  | k + 1, o4_0, o4_1j14, o5j14, o100000_0j14, o100000_1j14 => Option.some (o5j14, o4_0, o4_1j14, o100000_0j14, o100000_1j14)
def pilemake_Stream_TimesOf.l1 : Nat → Int → Int → Int → List Int → Int → List Int → Option ((List Int) × Int × Int × (List Int) × Int)
  | 0, _, _, _, _, _, _ => Option.none
  | k + 1, x6, o4_0, o4_1, o100000_0, o100000_1, o5b => (if (o5b.length : Int) > 0 then (if 0 ≤ wrap64 ((o5b.length : Int) - 1) then (if wrap64 ((o5b.length : Int) - 1) < (o5b.length : Int) then (if (rd o5b (wrap64 ((o5b.length : Int) - 1))) ≥ o4_1 then (if 0 ≤ wrap64 ((o5b.length : Int) - 1) then (if wrap64 ((o5b.length : Int) - 1) ≤ (o5b.length : Int) then pilemake_Stream_TimesOf.l1 k x6 o4_0 o4_1 o100000_0 o100000_1 (o5b.take (wrap64 ((o5b.length : Int) - 1)).toNat) else Option.none) else Option.none) else ((pilemake_Stream_Flip.f k o100000_0 o100000_1 15).bind fun r10 => (if r10.1 = true then ((pilemake_Stream_Pick.f k r10.2.1 r10.2.2 [o4_1, o4_0, 345686400001]).bind fun r11 => ((pilemake_Stream_Pick.f k r11.2.1 r11.2.2 [0, r11.1, x6]).bind fun r12 => (if o5b.length + [r12.1].length ≤ 549755813888 then pilemake_Stream_TimesOf.j14 k o4_0 r11.1 (o5b ++ [r12.1]) r12.2.1 r12.2.2 else Option.none))) else pilemake_Stream_TimesOf.j14 k o4_0 o4_1 o5b r10.2.1 r10.2.2))) else Option.none) else Option.none) else ((pilemake_Stream_Flip.f k o100000_0 o100000_1 15).bind fun r16 => (if r16.1 = true then ((pilemake_Stream_Pick.f k r16.2.1 r16.2.2 [o4_1, o4_0, 345686400001]).bind fun r17 => ((pilemake_Stream_Pick.f k r17.2.1 r17.2.2 [0, r17.1, x6]).bind fun r18 => (if o5b.length + [r18.1].length ≤ 549755813888 then pilemake_Stream_TimesOf.j14 k o4_0 r17.1 (o5b ++ [r18.1]) r18.2.1 r18.2.2 else Option.none))) else pilemake_Stream_TimesOf.j14 k o4_0 o4_1 o5b r16.2.1 r16.2.2)))
def pilemake_Stream_TimesOf.l0 : Nat → Int → Int → Int → Int → Int → List Int → List Int → Int → Option ((List Int) × Int × Int × (List Int) × Int)
  | 0, _, _, _, _, _, _, _, _ => Option.none
  | k + 1, x6, x17, x18, o4_0, o4_1, o5, o100000_0, o100000_1 => (if x18 < x17 then ((pilemake_Stream_Pick.f k o100000_0 o100000_1 [0, 1, 1000, 60000, 300000, 1800000]).bind fun r4 => (if o5.length + 1 ≤ 549755813888 then pilemake_Stream_TimesOf.l0 k (wrap64 (x6 + r4.1)) x17 (wrap64 (x18 + 1)) o4_0 o4_1 (o5 ++ [wrap64 (x6 + r4.1)]) r4.2.1 r4.2.2 else Option.none)) else pilemake_Stream_TimesOf.l1 k x6 o4_0 o4_1 o100000_0 o100000_1 o5)
end
def pilemake_Stream_TimesOf.f (k : Nat) (p0_0 : List Int) (p0_1 : Int) : Option ((List Int) × Int × Int × (List Int) × Int) := ((pilemake_Stream_Pick.f k p0_0 p0_1 [0, 1000]).bind fun r1 => ((pilemake_Stream_Pick.f k r1.2.1 r1.2.2 [3600000, 5000000, 9000000, 30000000]).bind fun r2 => ((pilemake_Stream_Range.f k r2.2.1 r2.2.2 0 12).bind fun r3 => pilemake_Stream_TimesOf.l0 k r1.1 r3.1 0 r1.1 r2.1 [] r3.2.1 r3.2.2)))
theorem pilemake_Stream_TimesOf.loops (p0_0 : List Int) (p0_1 : Int) : ∀ k, (∀ (o4_0 : Int) (o4_1j14 : Int) (o5j14 : List Int) (o100000_0j14 : List Int) (o100000_1j14 : Int) (t5j14 : List Int), RS (fam Tryd.f5 [14, 1000048] [] [(100000, .box [sq eI p0_0, .int .i64 p0_1])] (fun r : (List Int) × Int × Int × (List Int) × Int => .tup [sq eI r.1, .agg [.int .i64 r.2.1, .int .i64 r.2.2.1]]) (fun r => [(100000, .box [sq eI r.2.2.2.1, .int .i64 r.2.2.2.2])])) (Func.reg Tryd.f5 14) ⟨ofT [(3, .ref 3 0 0 0 2), (4, .ref 4 0 0 0 2), (5, .osl 5 eI.w 0 o5j14.length (o5j14 ++ t5j14).length)], ofL [(3, .box [.int .i64 0, .int .i64 0]), (4, .box [.int .i64 o4_0, .int .i64 o4_1j14]), (5, bufE eI (o5j14 ++ t5j14)), (100000, .box [sq eI o100000_0j14, .int .i64 o100000_1j14])]⟩ (pilemake_Stream_TimesOf.j14 k o4_0 o4_1j14 o5j14 o100000_0j14 o100000_1j14)) ∧ (∀ (x6 : Int) (o4_0 : Int) (o4_1 : Int) (o100000_0 : List Int) (o100000_1 : Int) (o5b : List Int) (t5b : List Int), RS (fam Tryd.f5 [14, 1000048] [] [(100000, .box [sq eI p0_0, .int .i64 p0_1])] (fun r : (List Int) × Int × Int × (List Int) × Int => .tup [sq eI r.1, .agg [.int .i64 r.2.1, .int .i64 r.2.2.1]]) (fun r => [(100000, .box [sq eI r.2.2.2.1, .int .i64 r.2.2.2.2])])) (Func.head Tryd.f5 1) ⟨ofT [(0, .ref 100000 0 0 0 2), (3, .ref 3 0 0 0 2), (4, .ref 4 0 0 0 2), (5, .osl 5 eI.w 0 o5b.length (o5b ++ t5b).length), (6, .int .i64 x6)], ofL [(3, .box [.int .i64 0, .int .i64 0]), (4, .box [.int .i64 o4_0, .int .i64 o4_1]), (5, bufE eI (o5b ++ t5b)), (100000, .box [sq eI o100000_0, .int .i64 o100000_1])]⟩ (pilemake_Stream_TimesOf.l1 k x6 o4_0 o4_1 o100000_0 o100000_1 o5b)) ∧ (∀ (x6 : Int) (x17 : Int) (x18 : Int) (o4_0 : Int) (o4_1 : Int) (o5 : List Int) (o100000_0 : List Int) (o100000_1 : Int), RS (fam Tryd.f5 [14, 1000048] [] [(100000, .box [sq eI p0_0, .int .i64 p0_1])] (fun r : (List Int) × Int × Int × (List Int) × Int => .tup [sq eI r.1, .agg [.int .i64 r.2.1, .int .i64 r.2.2.1]]) (fun r => [(100000, .box [sq eI r.2.2.2.1, .int .i64 r.2.2.2.2])])) (Func.head Tryd.f5 0) ⟨ofT [(0, .ref 100000 0 0 0 2), (3, .ref 3 0 0 0 2), (4, .ref 4 0 0 0 2), (5, .osl 5 eI.w 0 o5.length o5.length), (6, .int .i64 x6), (17, .int .i64 x17), (18, .int .i64 x18)], ofL [(3, .box [.int .i64 0, .int .i64 0]), (4, .box [.int .i64 o4_0, .int .i64 o4_1]), (5, bufE eI o5), (100000, .box [sq eI o100000_0, .int .i64 o100000_1])]⟩ (pilemake_Stream_TimesOf.l0 k x6 x17 x18 o4_0 o4_1 o5 o100000_0 o100000_1))
  | 0 => ⟨by intro _ _ _ _ _ _; simp only [pilemake_Stream_TimesOf.j14]; exact RS.none, by intro _ _ _ _ _ _ _; simp only [pilemake_Stream_TimesOf.l1]; exact RS.none, by intro _ _ _ _ _ _ _ _; simp only [pilemake_Stream_TimesOf.l0]; exact RS.none⟩
  | k + 1 => by
    have ih := pilemake_Stream_TimesOf.loops p0_0 p0_1 k
    refine ⟨?_, ?_, ?_⟩
    · intro o4_0 o4_1j14 o5j14 o100000_0j14 o100000_1j14 t5j14
      simp only [pilemake_Stream_TimesOf.j14]
      refine RS.draw rfl ?_
      refine RD.fin pilemake_Stream_TimesOf.k0 pilemake_Stream_TimesOf.k1 rfl rfl (by decide +kernel) ?_
      refine RS.go ?_
      refine RT.freeze 5 _ _ _ [(2, .sl o5j14.length eI.w (rep eI (o5j14 ++ t5j14))), (3, .ref 3 0 0 0 2)] [(100000, .box [sq eI o100000_0j14, .int .i64 o100000_1j14]), (3, .box [.int .i64 o4_0, .int .i64 o4_1j14])] rfl rfl ⟨.inr ⟨_, rfl, by first | exact Nat.le_refl _ | simp, rfl⟩, .inl (Le.refl _), trivial⟩ ⟨⟨_, rfl, LeO.refl _⟩, ⟨⟨_, rfl, LeO.refl _⟩, trivial⟩⟩ rfl (dom_of rfl) ?_
      exact RT.done rfl rfl (Le.tup (LeL.cons Le.pre (LeL.cons (Le.refl _) (LeL.nil)))) ⟨⟨_, rfl, LeO.refl _⟩, trivial⟩ rfl (dom_of rfl)
    · intro x6 o4_0 o4_1 o100000_0 o100000_1 o5b t5b
      simp only [pilemake_Stream_TimesOf.l1]
      refine RS.go ?_
      refine RT.goto rfl ?_
      refine RS.draw rfl ?_
      refine RD.req rfl (by first | exact Nat.zero_add _ | rfl | simp [szf, szOf]) ?_
      refine RD.br rfl (fun c21 => ?_) (fun c21 => ?_)
      · refine RD.brT rfl ?_
        refine RD.brT rfl ?_
        refine RD.req rfl (by first | exact Nat.zero_add _ | rfl | simp [szf, szOf]) ?_
        refine RD.brT rfl ?_
        refine RD.brT rfl ?_
        refine RD.req rfl (by first | exact Nat.zero_add _ | rfl | simp) ?_
        refine RD.br rfl (fun c6 => ?_) (fun c6 => RD.none)
        refine RD.br rfl (fun c7 => ?_) (fun c7 => RD.none)
        refine RD.brT rfl ?_
        refine RD.req rfl ⟨by first | rfl | simp, elt_lt c6 (le_room2 c7)⟩ ?_
        refine RD.brT rfl ?_
        refine RD.brT rfl ?_
        refine RD.brT rfl ?_
        refine RD.brT rfl ?_
        refine RD.fin pilemake_Stream_TimesOf.k2 pilemake_Stream_TimesOf.k3 rfl rfl (by decide +kernel) ?_
        refine RS.go ?_
        refine RT.brC (p := (rd o5b (wrap64 ((o5b.length : Int) - 1))) ≥ o4_1) rfl (pre_cond (E := eI) (l := o5b) (t := t5b) (i := wrap64 ((o5b.length : Int) - 1)) (q := fun x => x ≥ o4_1) c6 c7) (fun c15 => ?_) (fun c15 => ?_)
        · refine RT.req rfl (by first | exact Nat.zero_add _ | rfl | simp [szf, szOf]) ?_
          refine RT.req rfl (by first | exact Nat.zero_add _ | rfl | simp) ?_
          refine RT.br rfl (fun c8 => ?_) (fun c8 => RT.none)
          refine RT.when (fun c9 => ?_)
          refine RT.sure rfl (decide_eq_true (by first | exact c9 | exact le_room c9)) ?_
          refine RT.goto rfl ?_
          refine RS.obj 5 (bufE eI ((o5b.take (wrap64 ((o5b.length : Int) - 1)).toNat) ++ ((o5b.drop (wrap64 ((o5b.length : Int) - 1)).toNat) ++ t5b))) ⟨_, rfl, LeO.cut⟩ ?_
          refine RS.slot 48 (.osl 5 eI.w 0 (o5b.take (wrap64 ((o5b.length : Int) - 1)).toNat).length ((o5b.take (wrap64 ((o5b.length : Int) - 1)).toNat) ++ ((o5b.drop (wrap64 ((o5b.length : Int) - 1)).toNat) ++ t5b)).length) (Le.osl2 rfl rfl (len_take c8 c9) len_cut) ?_
          refine RS.go ?_
          refine RT.goto rfl ?_
          refine RS.weak [(0, .ref 100000 0 0 0 2), (3, .ref 3 0 0 0 2), (4, .ref 4 0 0 0 2), (5, .osl 5 eI.w 0 (o5b.take (wrap64 ((o5b.length : Int) - 1)).toNat).length ((o5b.take (wrap64 ((o5b.length : Int) - 1)).toNat) ++ ((o5b.drop (wrap64 ((o5b.length : Int) - 1)).toNat) ++ t5b)).length), (6, .int .i64 x6)] [(3, .box [.int .i64 0, .int .i64 0]), (4, .box [.int .i64 o4_0, .int .i64 o4_1]), (5, bufE eI ((o5b.take (wrap64 ((o5b.length : Int) - 1)).toNat) ++ ((o5b.drop (wrap64 ((o5b.length : Int) - 1)).toNat) ++ t5b))), (100000, .box [sq eI o100000_0, .int .i64 o100000_1])] ⟨Le.eq (by first | rfl | simp), Le.eq (by first | rfl | simp), Le.eq (by first | rfl | simp), Le.osl2 rfl rfl (by first | rfl | simp) (by first | rfl | simp), Le.eq (by first | rfl | simp), trivial⟩ ⟨⟨_, rfl, LeO.refl _⟩, ⟨_, rfl, LeO.refl _⟩, ⟨_, rfl, by first | exact LeO.refl _ | exact LeO.room0⟩, ⟨_, rfl, LeO.refl _⟩, trivial⟩ rfl (dom_of rfl) ?_
          exact ih.2.1 x6 o4_0 o4_1 o100000_0 o100000_1 (o5b.take (wrap64 ((o5b.length : Int) - 1)).toNat) ((o5b.drop (wrap64 ((o5b.length : Int) - 1)).toNat) ++ t5b)
        · refine RT.call rfl (fun _ h => pilemake_Stream_Flip.ok k o100000_0 o100000_1 15 _ h) (fun i => bif Nat.beq i 100000 then 100000 else i) (LeL.eq rfl) ⟨⟨_, rfl, LeO.refl _⟩, trivial⟩ (fun _ => rfl) (fun r10 => ?_)
          refine RS.go ?_
          refine RT.brB rfl (fun c14 => ?_) (fun c14 => ?_)
          · refine RT.goto rfl ?_
            refine RS.slot 56 (sq eI [o4_1, o4_0, 345686400001]) (Le.lit (E := eI) (l := [o4_1, o4_0, 345686400001]) (cells_of rfl)) ?_
            refine RS.go ?_
            refine RT.call rfl (fun _ h => pilemake_Stream_Pick.ok k r10.2.1 r10.2.2 [o4_1, o4_0, 345686400001] _ h) (fun i => bif Nat.beq i 100000 then 100000 else i) (LeL.eq rfl) ⟨⟨_, rfl, LeO.refl _⟩, trivial⟩ (fun _ => rfl) (fun r11 => ?_)
            refine RS.go ?_
            refine RT.goto rfl ?_
            refine RS.slot 64 (sq eI [0, r11.1, x6]) (Le.lit (E := eI) (l := [0, r11.1, x6]) (cells_of rfl)) ?_
            refine RS.go ?_
            refine RT.call rfl (fun _ h => pilemake_Stream_Pick.ok k r11.2.1 r11.2.2 [0, r11.1, x6] _ h) (fun i => bif Nat.beq i 100000 then 100000 else i) (LeL.eq rfl) ⟨⟨_, rfl, LeO.refl _⟩, trivial⟩ (fun _ => rfl) (fun r12 => ?_)
            refine RS.go ?_
            refine RT.goto rfl ?_
            refine RS.slot 66 (sq eI [r12.1]) (Le.lit (E := eI) (l := [r12.1]) (cells_of rfl)) ?_
            refine RS.go ?_
            refine RT.req rfl ⟨by first | rfl | simp, by first | rfl | simp⟩ ?_
            refine RT.app (E := eI) (l := o5b) (t := t5b) (m := [r12.1]) rfl (fun _ _ _ _ => rfl) (fun t13 => ?_)
            refine RS.go ?_
            refine RT.goto rfl ?_
            refine RS.weak [(3, .ref 3 0 0 0 2), (4, .ref 4 0 0 0 2), (5, .osl 5 eI.w 0 (o5b ++ [r12.1]).length ((o5b ++ [r12.1]) ++ t13).length)] [(3, .box [.int .i64 0, .int .i64 0]), (4, .box [.int .i64 o4_0, .int .i64 r11.1]), (5, bufE eI ((o5b ++ [r12.1]) ++ t13)), (100000, .box [sq eI r12.2.1, .int .i64 r12.2.2])] ⟨Le.eq (by first | rfl | simp), Le.eq (by first | rfl | simp), Le.osl2 rfl rfl (by first | rfl | simp) (by first | rfl | simp), trivial⟩ ⟨⟨_, rfl, LeO.refl _⟩, ⟨_, rfl, LeO.refl _⟩, ⟨_, rfl, by first | exact LeO.refl _ | exact LeO.room0⟩, ⟨_, rfl, LeO.refl _⟩, trivial⟩ rfl (dom_of rfl) ?_
            exact ih.1 o4_0 r11.1 (o5b ++ [r12.1]) r12.2.1 r12.2.2 t13
          · refine RT.goto rfl ?_
            refine RS.weak [(3, .ref 3 0 0 0 2), (4, .ref 4 0 0 0 2), (5, .osl 5 eI.w 0 o5b.length (o5b ++ t5b).length)] [(3, .box [.int .i64 0, .int .i64 0]), (4, .box [.int .i64 o4_0, .int .i64 o4_1]), (5, bufE eI (o5b ++ t5b)), (100000, .box [sq eI r10.2.1, .int .i64 r10.2.2])] ⟨Le.eq (by first | rfl | simp), Le.eq (by first | rfl | simp), Le.osl2 rfl rfl (by first | rfl | simp) (by first | rfl | simp), trivial⟩ ⟨⟨_, rfl, LeO.refl _⟩, ⟨_, rfl, LeO.refl _⟩, ⟨_, rfl, by first | exact LeO.refl _ | exact LeO.room0⟩, ⟨_, rfl, LeO.refl _⟩, trivial⟩ rfl (dom_of rfl) ?_
            exact ih.1 o4_0 o4_1 o5b r10.2.1 r10.2.2 t5b
      · refine RD.brF rfl ?_
        refine RD.brF rfl ?_
        refine RD.brF rfl ?_
        refine RD.brF rfl ?_
        refine RD.brF rfl ?_
        refine RD.brF rfl ?_
        refine RD.brF rfl ?_
        refine RD.brF rfl ?_
        refine RD.brF rfl ?_
        refine RD.fin pilemake_Stream_TimesOf.k4 pilemake_Stream_TimesOf.k3 rfl rfl (by decide +kernel) ?_
        refine RS.go ?_
        refine RT.brF rfl ?_
        refine RT.call rfl (fun _ h => pilemake_Stream_Flip.ok k o100000_0 o100000_1 15 _ h) (fun i => bif Nat.beq i 100000 then 100000 else i) (LeL.eq rfl) ⟨⟨_, rfl, LeO.refl _⟩, trivial⟩ (fun _ => rfl) (fun r16 => ?_)
        refine RS.go ?_
        refine RT.brB rfl (fun c20 => ?_) (fun c20 => ?_)
        · refine RT.goto rfl ?_
          refine RS.slot 56 (sq eI [o4_1, o4_0, 345686400001]) (Le.lit (E := eI) (l := [o4_1, o4_0, 345686400001]) (cells_of rfl)) ?_
          refine RS.go ?_
          refine RT.call rfl (fun _ h => pilemake_Stream_Pick.ok k r16.2.1 r16.2.2 [o4_1, o4_0, 345686400001] _ h) (fun i => bif Nat.beq i 100000 then 100000 else i) (LeL.eq rfl) ⟨⟨_, rfl, LeO.refl _⟩, trivial⟩ (fun _ => rfl) (fun r17 => ?_)
          refine RS.go ?_
          refine RT.goto rfl ?_
          refine RS.slot 64 (sq eI [0, r17.1, x6]) (Le.lit (E := eI) (l := [0, r17.1, x6]) (cells_of rfl)) ?_
          refine RS.go ?_
          refine RT.call rfl (fun _ h => pilemake_Stream_Pick.ok k r17.2.1 r17.2.2 [0, r17.1, x6] _ h) (fun i => bif Nat.beq i 100000 then 100000 else i) (LeL.eq rfl) ⟨⟨_, rfl, LeO.refl _⟩, trivial⟩ (fun _ => rfl) (fun r18 => ?_)
          refine RS.go ?_
          refine RT.goto rfl ?_
          refine RS.slot 66 (sq eI [r18.1]) (Le.lit (E := eI) (l := [r18.1]) (cells_of rfl)) ?_
          refine RS.go ?_
          refine RT.req rfl ⟨by first | rfl | simp, by first | rfl | simp⟩ ?_
          refine RT.app (E := eI) (l := o5b) (t := t5b) (m := [r18.1]) rfl (fun _ _ _ _ => rfl) (fun t19 => ?_)
          refine RS.go ?_
          refine RT.goto rfl ?_
          refine RS.weak [(3, .ref 3 0 0 0 2), (4, .ref 4 0 0 0 2), (5, .osl 5 eI.w 0 (o5b ++ [r18.1]).length ((o5b ++ [r18.1]) ++ t19).length)] [(3, .box [.int .i64 0, .int .i64 0]), (4, .box [.int .i64 o4_0, .int .i64 r17.1]), (5, bufE eI ((o5b ++ [r18.1]) ++ t19)), (100000, .box [sq eI r18.2.1, .int .i64 r18.2.2])] ⟨Le.eq (by first | rfl | simp), Le.eq (by first | rfl | simp), Le.osl2 rfl rfl (by first | rfl | simp) (by first | rfl | simp), trivial⟩ ⟨⟨_, rfl, LeO.refl _⟩, ⟨_, rfl, LeO.refl _⟩, ⟨_, rfl, by first | exact LeO.refl _ | exact LeO.room0⟩, ⟨_, rfl, LeO.refl _⟩, trivial⟩ rfl (dom_of rfl) ?_
          exact ih.1 o4_0 r17.1 (o5b ++ [r18.1]) r18.2.1 r18.2.2 t19
        · refine RT.goto rfl ?_
          refine RS.weak [(3, .ref 3 0 0 0 2), (4, .ref 4 0 0 0 2), (5, .osl 5 eI.w 0 o5b.length (o5b ++ t5b).length)] [(3, .box [.int .i64 0, .int .i64 0]), (4, .box [.int .i64 o4_0, .int .i64 o4_1]), (5, bufE eI (o5b ++ t5b)), (100000, .box [sq eI r16.2.1, .int .i64 r16.2.2])] ⟨Le.eq (by first | rfl | simp), Le.eq (by first | rfl | simp), Le.osl2 rfl rfl (by first | rfl | simp) (by first | rfl | simp), trivial⟩ ⟨⟨_, rfl, LeO.refl _⟩, ⟨_, rfl, LeO.refl _⟩, ⟨_, rfl, by first | exact LeO.refl _ | exact LeO.room0⟩, ⟨_, rfl, LeO.refl _⟩, trivial⟩ rfl (dom_of rfl) ?_
          exact ih.1 o4_0 o4_1 o5b r16.2.1 r16.2.2 t5b
    · intro x6 x17 x18 o4_0 o4_1 o5 o100000_0 o100000_1
      simp only [pilemake_Stream_TimesOf.l0]
      refine RS.go ?_
      refine RT.br rfl (fun c22 => ?_) (fun c22 => ?_)
      · refine RT.goto rfl ?_
        refine RS.slot 22 (sq eI [0, 1, 1000, 60000, 300000, 1800000]) (Le.lit (E := eI) (l := [0, 1, 1000, 60000, 300000, 1800000]) (cells_of rfl)) ?_
        refine RS.go ?_
        refine RT.call rfl (fun _ h => pilemake_Stream_Pick.ok k o100000_0 o100000_1 [0, 1, 1000, 60000, 300000, 1800000] _ h) (fun i => bif Nat.beq i 100000 then 100000 else i) (LeL.eq rfl) ⟨⟨_, rfl, LeO.refl _⟩, trivial⟩ (fun _ => rfl) (fun r4 => ?_)
        refine RS.go ?_
        refine RT.goto rfl ?_
        refine RS.slot 27 (sq eI [wrap64 (x6 + r4.1)]) (Le.lit (E := eI) (l := [wrap64 (x6 + r4.1)]) (cells_of rfl)) ?_
        refine RS.go ?_
        refine RT.req rfl ⟨by first | rfl | simp, by first | exact Nat.le_refl _ | simp⟩ ?_
        refine RT.not rfl (by simp <;> omega) ?_
        refine RT.br rfl (fun c5 => ?_) (fun _ => RT.none)
        refine RT.goto rfl ?_
        refine RS.obj 5 (bufE eI (o5 ++ [wrap64 (x6 + r4.1)])) ⟨_, rfl, LeO.app (l := o5) (m := [wrap64 (x6 + r4.1)]) fun _ _ _ _ => rfl⟩ ?_
        refine RS.slot 28 (.osl 5 eI.w 0 (o5 ++ [wrap64 (x6 + r4.1)]).length (o5 ++ [wrap64 (x6 + r4.1)]).length) (by first | exact Le.oslN rfl (by simp) | exact Le.trans (y := .osl 5 eI.w 0 (o5.length + 1) (o5.length + 1)) (Le.refl _) (Le.oslN rfl (by simp))) ?_
        refine RS.go ?_
        refine RT.goto rfl ?_
        refine RS.weak [(0, .ref 100000 0 0 0 2), (3, .ref 3 0 0 0 2), (4, .ref 4 0 0 0 2), (5, .osl 5 eI.w 0 (o5 ++ [wrap64 (x6 + r4.1)]).length (o5 ++ [wrap64 (x6 + r4.1)]).length), (6, .int .i64 (wrap64 (x6 + r4.1))), (17, .int .i64 x17), (18, .int .i64 (wrap64 (x18 + 1)))] [(3, .box [.int .i64 0, .int .i64 0]), (4, .box [.int .i64 o4_0, .int .i64 o4_1]), (5, bufE eI (o5 ++ [wrap64 (x6 + r4.1)])), (100000, .box [sq eI r4.2.1, .int .i64 r4.2.2])] ⟨Le.eq (by first | rfl | simp), Le.eq (by first | rfl | simp), Le.eq (by first | rfl | simp), (by first | exact Le.oslN rfl (by first | rfl | simp) | exact Le.refl _ | exact Le.eq (by first | rfl | simp)), Le.eq (by first | rfl | simp), Le.eq (by first | rfl | simp), Le.eq (by first | rfl | simp), trivial⟩ ⟨⟨_, rfl, LeO.refl _⟩, ⟨_, rfl, LeO.refl _⟩, ⟨_, rfl, LeO.refl _⟩, ⟨_, rfl, LeO.refl _⟩, trivial⟩ rfl (dom_of rfl) ?_
        exact ih.2.2 (wrap64 (x6 + r4.1)) x17 (wrap64 (x18 + 1)) o4_0 o4_1 (o5 ++ [wrap64 (x6 + r4.1)]) r4.2.1 r4.2.2 
      · refine RT.goto rfl ?_
        refine RS.weak [(0, .ref 100000 0 0 0 2), (3, .ref 3 0 0 0 2), (4, .ref 4 0 0 0 2), (5, .osl 5 eI.w 0 o5.length (o5 ++ ([] : List Int)).length), (6, .int .i64 x6)] [(3, .box [.int .i64 0, .int .i64 0]), (4, .box [.int .i64 o4_0, .int .i64 o4_1]), (5, bufE eI (o5 ++ ([] : List Int))), (100000, .box [sq eI o100000_0, .int .i64 o100000_1])] ⟨Le.eq (by first | rfl | simp), Le.eq (by first | rfl | simp), Le.eq (by first | rfl | simp), Le.osl2 rfl rfl (by first | rfl | simp) (by first | rfl | simp), Le.eq (by first | rfl | simp), trivial⟩ ⟨⟨_, rfl, LeO.refl _⟩, ⟨_, rfl, LeO.refl _⟩, ⟨_, rfl, by first | exact LeO.refl _ | exact LeO.room0⟩, ⟨_, rfl, LeO.refl _⟩, trivial⟩ rfl (dom_of rfl) ?_
        exact ih.2.1 x6 o4_0 o4_1 o100000_0 o100000_1 o5 ([] : List Int)
theorem pilemake_Stream_TimesOf.ok (k : Nat) (p0_0 : List Int) (p0_1 : Int) (r : (List Int) × Int × Int × (List Int) × Int) (h : pilemake_Stream_TimesOf.f k p0_0 p0_1 = some r) : Ct Tryd.prog B 5 [.ref 100000 0 0 0 2] (ofL [(100000, .box [sq eI p0_0, .int .i64 p0_1])]) (.tup [sq eI r.1, .agg [.int .i64 r.2.1, .int .i64 r.2.2.1]]) (ofL [(100000, .box [sq eI r.2.2.2.1, .int .i64 r.2.2.2.2])]) := by
  refine Ct.of (Y := (fam Tryd.f5 [14, 1000048] [] [(100000, .box [sq eI p0_0, .int .i64 p0_1])] (fun r : (List Int) × Int × Int × (List Int) × Int => .tup [sq eI r.1, .agg [.int .i64 r.2.1, .int .i64 r.2.2.1]]) (fun r => [(100000, .box [sq eI r.2.2.2.1, .int .i64 r.2.2.2.2])]))) Tryd.func5 rfl Tryd.call5 rfl rfl ?_ r h
  unfold pilemake_Stream_TimesOf.f
  refine RS.go ?_
  refine RT.goto rfl ?_
  refine RS.slot 8 (sq eI [0, 1000]) (Le.lit (E := eI) (l := [0, 1000]) (cells_of rfl)) ?_
  refine RS.go ?_
  refine RT.call rfl (fun _ h => pilemake_Stream_Pick.ok k p0_0 p0_1 [0, 1000] _ h) (fun i => bif Nat.beq i 100000 then 100000 else i) (LeL.eq rfl) ⟨⟨_, rfl, LeO.refl _⟩, trivial⟩ (fun _ => rfl) (fun r1 => ?_)
  refine RS.go ?_
  refine RT.goto rfl ?_
  refine RS.slot 11 (sq eI [3600000, 5000000, 9000000, 30000000]) (Le.lit (E := eI) (l := [3600000, 5000000, 9000000, 30000000]) (cells_of rfl)) ?_
  refine RS.go ?_
  refine RT.call rfl (fun _ h => pilemake_Stream_Pick.ok k r1.2.1 r1.2.2 [3600000, 5000000, 9000000, 30000000] _ h) (fun i => bif Nat.beq i 100000 then 100000 else i) (LeL.eq rfl) ⟨⟨_, rfl, LeO.refl _⟩, trivial⟩ (fun _ => rfl) (fun r2 => ?_)
  refine RS.go ?_
  refine RT.call rfl (fun _ h => pilemake_Stream_Range.ok k r2.2.1 r2.2.2 0 12 _ h) (fun i => bif Nat.beq i 100000 then 100000 else i) (LeL.eq rfl) ⟨⟨_, rfl, LeO.refl _⟩, trivial⟩ (fun _ => rfl) (fun r3 => ?_)
  refine RS.go ?_
  refine RT.goto rfl ?_
  refine RS.ghost 5 5 eI.w (rep eI []) rfl rfl ?_
  refine RS.weak [(0, .ref 100000 0 0 0 2), (3, .ref 3 0 0 0 2), (4, .ref 4 0 0 0 2), (5, .osl 5 eI.w 0 ([] : List Int).length ([] : List Int).length), (6, .int .i64 r1.1), (17, .int .i64 r3.1), (18, .int .i64 0)] [(3, .box [.int .i64 0, .int .i64 0]), (4, .box [.int .i64 r1.1, .int .i64 r2.1]), (5, bufE eI ([] : List Int)), (100000, .box [sq eI r3.2.1, .int .i64 r3.2.2])] ⟨Le.eq (by first | rfl | simp), Le.eq (by first | rfl | simp), Le.eq (by first | rfl | simp), (by first | exact Le.oslN rfl (by first | rfl | simp) | exact Le.refl _ | exact Le.eq (by first | rfl | simp)), Le.eq (by first | rfl | simp), Le.eq (by first | rfl | simp), Le.eq (by first | rfl | simp), trivial⟩ ⟨⟨_, rfl, LeO.refl _⟩, ⟨_, rfl, LeO.refl _⟩, ⟨_, rfl, LeO.refl _⟩, ⟨_, rfl, LeO.refl _⟩, trivial⟩ rfl (dom_of rfl) ?_
  exact (pilemake_Stream_TimesOf.loops p0_0 p0_1 k).2.2 r1.1 r3.1 0 r1.1 r2.1 [] r3.2.1 r3.2.2 
/-! ### pilemake_Stream_Some: function 29 -/
def pilemake_Stream_Some.f (k : Nat) (p0_0 : List Int) (p0_1 : Int) (l1 : List ByteArray) : Option (ByteArray × (List Int) × Int) := ((pilemake_Stream_Next.f k p0_0 p0_1 (l1.length : Int)).bind fun r1 => (if 0 ≤ r1.1 then (if r1.1 < (l1.length : Int) then Option.some ((rdE eS l1 r1.1), r1.2.1, r1.2.2) else Option.none) else Option.none))
theorem pilemake_Stream_Some.ok (k : Nat) (p0_0 : List Int) (p0_1 : Int) (l1 : List ByteArray) (r : ByteArray × (List Int) × Int) (h : pilemake_Stream_Some.f k p0_0 p0_1 l1 = some r) : Ct Tryd.prog B 29 [.ref 100000 0 0 0 2, sq eS l1] (ofL [(100000, .box [sq eI p0_0, .int .i64 p0_1])]) (.str r.1) (ofL [(100000, .box [sq eI r.2.1, .int .i64 r.2.2])]) := by
  refine Ct.of (Y := (fam Tryd.f29 [] [] [(100000, .box [sq eI p0_0, .int .i64 p0_1])] (fun r : ByteArray × (List Int) × Int => .str r.1) (fun r => [(100000, .box [sq eI r.2.1, .int .i64 r.2.2])]))) Tryd.func29 rfl Tryd.call29 rfl rfl ?_ r h
  unfold pilemake_Stream_Some.f
  refine RS.go ?_
  refine RT.call rfl (fun _ h => pilemake_Stream_Next.ok k p0_0 p0_1 (l1.length : Int) _ h) (fun i => bif Nat.beq i 100000 then 100000 else i) (LeL.eq rfl) ⟨⟨_, rfl, LeO.refl _⟩, trivial⟩ (fun _ => rfl) (fun r1 => ?_)
  refine RS.go ?_
  refine RT.br rfl (fun c2 => ?_) (fun c2 => RT.none)
  refine RT.br rfl (fun c3 => ?_) (fun c3 => RT.none)
  exact RT.done rfl rfl (Le.refl _) ⟨⟨_, rfl, LeO.refl _⟩, trivial⟩ rfl (dom_of rfl)
/-! ### pilemake_Stream_Shifts: function 6 -/
def pilemake_Stream_Shifts.k0 : List DK := [⟨[59, 55], [3], [], [3]⟩, ⟨[58], [3], [59], []⟩, ⟨[41], [3], [58], []⟩, ⟨[57, 48], [3], [], [3]⟩, ⟨[56], [3], [57], []⟩, ⟨[40], [3], [56], []⟩, ⟨[49, 54], [100000, 100000], [55], [100000]⟩, ⟨[53], [54], [54], []⟩, ⟨[52], [3], [53], []⟩, ⟨[51], [3], [52], []⟩, ⟨[50], [3], [51], []⟩, ⟨[5], [], [50], []⟩, ⟨[0], [], [49], []⟩, ⟨[42, 47], [100000, 100000], [48], [100000]⟩, ⟨[46], [47], [47], []⟩, ⟨[45], [3], [46], []⟩, ⟨[44], [3], [45], []⟩, ⟨[43], [3], [44], []⟩, ⟨[5], [], [43], []⟩, ⟨[0], [], [42], []⟩, ⟨[5], [], [41], []⟩, ⟨[5], [], [40], []⟩]
def pilemake_Stream_Shifts.k1 : List Nat := [0, 0, 0, 0, 8, 24, 56, 120, 252, 0, 0, 1024, 3072, 7168, 15360, 32764, 65533, 131069, 262141, 524287, 1048575, 2097151]
mutual
def pilemake_Stream_Shifts.j11 : Nat → List (Int × ByteArray) → List Int → Int → Option ((List (Int × ByteArray)) × (List Int) × Int)
  | 0, _, _, _ => Option.none
  | k + 1, o3j11, o100000_0j11, o100000_1j11 => Option.some (o3j11, o100000_0j11, o100000_1j11)
def pilemake_Stream_Shifts.l0 : Nat → Int → Int → Int → List (Int × ByteArray) → List Int → Int → Option ((List (Int × ByteArray)) × (List Int) × Int)
  | 0, _, _, _, _, _, _ => Option.none
  | k + 1, x4, x10, x11, o3, o100000_0, o100000_1 => (if x11 < x10 then ((pilemake_Stream_Some.f k o100000_0 o100000_1 [(⟨#[97, 110, 110]⟩ : ByteArray), (⟨#[98, 111, 98]⟩ : ByteArray), (⟨#[99, 105, 100]⟩ : ByteArray), (⟨#[]⟩ : ByteArray)]).bind fun r3 => (if o3.length + 1 ≤ 549755813888 then ((pilemake_Stream_Pick.f k r3.2.1 r3.2.2 [1, 100000, 2000000, 3600000]).bind fun r4 => pilemake_Stream_Shifts.l0 k (wrap64 (x4 + r4.1)) x10 (wrap64 (x11 + 1)) (o3 ++ [(x4, r3.1)]) r4.2.1 r4.2.2) else Option.none)) else (if (o3.length : Int) > 0 then ((pilemake_Stream_Flip.f k o100000_0 o100000_1 15).bind fun r6 => (if r6.1 = true then ((pilemake_Stream_Next.f k r6.2.1 r6.2.2 (o3.length : Int)).bind fun r7 => (if 0 ≤ r7.1 then (if r7.1 < (o3.length : Int) then ((pilemake_Stream_Pick.f k r7.2.1 r7.2.2 [(rdE e_IS o3 r7.1).1, (-1), 0]).bind fun r10 => ((pilemake_Stream_Some.f k r10.2.1 r10.2.2 [(rdE e_IS o3 r7.1).2, (⟨#[65]⟩ : ByteArray)]).bind fun r11 => pilemake_Stream_Shifts.j11 k ((o3.set (r7.1).toNat (r10.1, (rdE e_IS o3 r7.1).2)).set (r7.1).toNat ((rdE e_IS (o3.set (r7.1).toNat (r10.1, (rdE e_IS o3 r7.1).2)) r7.1).1, r11.1)) r11.2.1 r11.2.2)) else Option.none) else Option.none)) else pilemake_Stream_Shifts.j11 k o3 r6.2.1 r6.2.2)) else pilemake_Stream_Shifts.j11 k o3 o100000_0 o100000_1))
end
def pilemake_Stream_Shifts.f (k : Nat) (p0_0 : List Int) (p0_1 : Int) : Option ((List (Int × ByteArray)) × (List Int) × Int) := ((pilemake_Stream_Pick.f k p0_0 p0_1 [0, 500, 1000000]).bind fun r1 => ((pilemake_Stream_Range.f k r1.2.1 r1.2.2 0 6).bind fun r2 => pilemake_Stream_Shifts.l0 k r1.1 r2.1 0 [] r2.2.1 r2.2.2))
theorem pilemake_Stream_Shifts.loops (p0_0 : List Int) (p0_1 : Int) : ∀ k, (∀ (o3j11 : List (Int × ByteArray)) (o100000_0j11 : List Int) (o100000_1j11 : Int), RS (fam Tryd.f6 [11] [] [(100000, .box [sq eI p0_0, .int .i64 p0_1])] (fun r : (List (Int × ByteArray)) × (List Int) × Int => sq e_IS r.1) (fun r => [(100000, .box [sq eI r.2.1, .int .i64 r.2.2])])) (Func.reg Tryd.f6 11) ⟨ofT [(3, .osl 3 e_IS.w 0 o3j11.length o3j11.length)], ofL [(3, bufE e_IS o3j11), (100000, .box [sq eI o100000_0j11, .int .i64 o100000_1j11])]⟩ (pilemake_Stream_Shifts.j11 k o3j11 o100000_0j11 o100000_1j11)) ∧ (∀ (x4 : Int) (x10 : Int) (x11 : Int) (o3 : List (Int × ByteArray)) (o100000_0 : List Int) (o100000_1 : Int), RS (fam Tryd.f6 [11] [] [(100000, .box [sq eI p0_0, .int .i64 p0_1])] (fun r : (List (Int × ByteArray)) × (List Int) × Int => sq e_IS r.1) (fun r => [(100000, .box [sq eI r.2.1, .int .i64 r.2.2])])) (Func.head Tryd.f6 0) ⟨ofT [(0, .ref 100000 0 0 0 2), (3, .osl 3 e_IS.w 0 o3.length o3.length), (4, .int .i64 x4), (10, .int .i64 x10), (11, .int .i64 x11)], ofL [(3, bufE e_IS o3), (100000, .box [sq eI o100000_0, .int .i64 o100000_1])]⟩ (pilemake_Stream_Shifts.l0 k x4 x10 x11 o3 o100000_0 o100000_1))
  | 0 => ⟨by intro _ _ _; simp only [pilemake_Stream_Shifts.j11]; exact RS.none, by intro _ _ _ _ _ _; simp only [pilemake_Stream_Shifts.l0]; exact RS.none⟩
  | k + 1 => by
    have ih := pilemake_Stream_Shifts.loops p0_0 p0_1 k
    refine ⟨?_, ?_⟩
    · intro o3j11 o100000_0j11 o100000_1j11
      simp only [pilemake_Stream_Shifts.j11]
      refine RS.region ?_
      refine RS.go ?_
      refine RT.freeze 3 _ _ _ [(2, sq e_IS o3j11)] [(100000, .box [sq eI o100000_0j11, .int .i64 o100000_1j11])] rfl rfl ⟨.inr ⟨_, rfl, by first | exact Nat.le_refl _ | simp, rfl⟩, trivial⟩ ⟨⟨_, rfl, LeO.refl _⟩, trivial⟩ rfl (dom_of rfl) ?_
      exact RT.done rfl rfl (Le.refl _) ⟨⟨_, rfl, LeO.refl _⟩, trivial⟩ rfl (dom_of rfl)
    · intro x4 x10 x11 o3 o100000_0 o100000_1
      simp only [pilemake_Stream_Shifts.l0]
      refine RS.go ?_
      refine RT.br rfl (fun c14 => ?_) (fun c14 => ?_)
      · refine RT.goto rfl ?_
        refine RS.slot 16 (sq eS [(⟨#[97, 110, 110]⟩ : ByteArray), (⟨#[98, 111, 98]⟩ : ByteArray), (⟨#[99, 105, 100]⟩ : ByteArray), (⟨#[]⟩ : ByteArray)]) (Le.lit (E := eS) (l := [(⟨#[97, 110, 110]⟩ : ByteArray), (⟨#[98, 111, 98]⟩ : ByteArray), (⟨#[99, 105, 100]⟩ : ByteArray), (⟨#[]⟩ : ByteArray)]) (cells_of rfl)) ?_
        refine RS.go ?_
        refine RT.call rfl (fun _ h => pilemake_Stream_Some.ok k o100000_0 o100000_1 [(⟨#[97, 110, 110]⟩ : ByteArray), (⟨#[98, 111, 98]⟩ : ByteArray), (⟨#[99, 105, 100]⟩ : ByteArray), (⟨#[]⟩ : ByteArray)] _ h) (fun i => bif Nat.beq i 100000 then 100000 else i) (LeL.eq rfl) ⟨⟨_, rfl, LeO.refl _⟩, trivial⟩ (fun _ => rfl) (fun r3 => ?_)
        refine RS.go ?_
        refine RT.goto rfl ?_
        refine RS.slot 19 (sq e_IS [(x4, r3.1)]) (Le.lit (E := e_IS) (l := [(x4, r3.1)]) (cells_of rfl)) ?_
        refine RS.go ?_
        refine RT.req rfl ⟨by first | rfl | simp, by first | exact Nat.le_refl _ | simp⟩ ?_
        refine RT.not rfl (by simp <;> omega) ?_
        refine RT.br rfl (fun c5 => ?_) (fun _ => RT.none)
        refine RT.goto rfl ?_
        refine RS.obj 3 (bufE e_IS (o3 ++ [(x4, r3.1)])) ⟨_, rfl, LeO.app (l := o3) (m := [(x4, r3.1)]) fun _ _ _ _ => rfl⟩ ?_
        refine RS.slot 20 (.osl 3 e_IS.w 0 (o3 ++ [(x4, r3.1)]).length (o3 ++ [(x4, r3.1)]).length) (by first | exact Le.oslN rfl (by simp) | exact Le.trans (y := .osl 3 e_IS.w 0 (o3.length + 1) (o3.length + 1)) (Le.refl _) (Le.oslN rfl (by simp))) ?_
        refine RS.go ?_
        refine RT.goto rfl ?_
        refine RS.slot 23 (sq eI [1, 100000, 2000000, 3600000]) (Le.lit (E := eI) (l := [1, 100000, 2000000, 3600000]) (cells_of rfl)) ?_
        refine RS.go ?_
        refine RT.call rfl (fun _ h => pilemake_Stream_Pick.ok k r3.2.1 r3.2.2 [1, 100000, 2000000, 3600000] _ h) (fun i => bif Nat.beq i 100000 then 100000 else i) (LeL.eq rfl) ⟨⟨_, rfl, LeO.refl _⟩, trivial⟩ (fun _ => rfl) (fun r4 => ?_)
        refine RS.go ?_
        refine RT.goto rfl ?_
        refine RS.weak [(0, .ref 100000 0 0 0 2), (3, .osl 3 e_IS.w 0 (o3 ++ [(x4, r3.1)]).length (o3 ++ [(x4, r3.1)]).length), (4, .int .i64 (wrap64 (x4 + r4.1))), (10, .int .i64 x10), (11, .int .i64 (wrap64 (x11 + 1)))] [(3, bufE e_IS (o3 ++ [(x4, r3.1)])), (100000, .box [sq eI r4.2.1, .int .i64 r4.2.2])] ⟨Le.eq (by first | rfl | simp), (by first | exact Le.oslN rfl (by first | rfl | simp) | exact Le.refl _ | exact Le.eq (by first | rfl | simp)), Le.eq (by first | rfl | simp), Le.eq (by first | rfl | simp), Le.eq (by first | rfl | simp), trivial⟩ ⟨⟨_, rfl, LeO.refl _⟩, ⟨_, rfl, LeO.refl _⟩, trivial⟩ rfl (dom_of rfl) ?_
        exact ih.2 (wrap64 (x4 + r4.1)) x10 (wrap64 (x11 + 1)) (o3 ++ [(x4, r3.1)]) r4.2.1 r4.2.2 
      · refine RT.req rfl (by first | exact Nat.zero_add _ | rfl | simp [szf, szOf]) ?_
        refine RT.br rfl (fun c13 => ?_) (fun c13 => ?_)
        · refine RT.brT rfl ?_
          refine RT.call rfl (fun _ h => pilemake_Stream_Flip.ok k o100000_0 o100000_1 15 _ h) (fun i => bif Nat.beq i 100000 then 100000 else i) (LeL.eq rfl) ⟨⟨_, rfl, LeO.refl _⟩, trivial⟩ (fun _ => rfl) (fun r6 => ?_)
          refine RS.go ?_
          refine RT.brT rfl ?_
          refine RT.brB rfl (fun c12 => ?_) (fun c12 => ?_)
          · refine RT.req rfl (by first | exact Nat.zero_add _ | rfl | simp [szf, szOf]) ?_
            refine RT.call rfl (fun _ h => pilemake_Stream_Next.ok k r6.2.1 r6.2.2 (o3.length : Int) _ h) (fun i => bif Nat.beq i 100000 then 100000 else i) (LeL.eq rfl) ⟨⟨_, rfl, LeO.refl _⟩, trivial⟩ (fun _ => rfl) (fun r7 => ?_)
            refine RS.go ?_
            refine RT.req rfl (by first | exact Nat.zero_add _ | rfl | simp) ?_
            refine RT.br rfl (fun c8 => ?_) (fun c8 => RT.none)
            refine RT.br rfl (fun c9 => ?_) (fun c9 => RT.none)
            refine RT.goto rfl ?_
            refine RS.draw rfl ?_
            refine RD.req rfl (by first | rfl | simp) ?_
            refine RD.req rfl (by first | rfl | simp) ?_
            refine RD.req rfl ⟨by first | rfl | simp, elt_lt c8 (by first | exact c9 | simpa using c9)⟩ ?_
            refine RD.call (CR := []) (CW := (fun r => [(100000, .box [sq eI r.2.1, .int .i64 r.2.2])])) rfl (fun _ h => pilemake_Stream_Pick.ok k r7.2.1 r7.2.2 [(rdE e_IS o3 r7.1).1, (-1), 0] _ h) (fun i => bif Nat.beq i 100000 then 100000 else i) trivial (fun _ => rfl) ⟨_, _, _, _, rfl, rfl, rfl⟩ (LeL.cons (Le.refl _) (LeL.cons (Le.lit (E := eI) (l := [(rdE e_IS o3 r7.1).1, (-1), 0]) (cells_of rfl)) (LeL.nil))) ⟨⟨_, rfl, LeO.refl _⟩, trivial⟩ (fun _ => rfl) (fun r10 => ?_)
            refine RD.req rfl (by first | rfl | simp) ?_
            refine RD.req rfl (by first | rfl | simp) ?_
            refine RD.req rfl ⟨by first | rfl | simp, elt_lt c8 (by first | exact c9 | simpa using c9)⟩ ?_
            refine RD.call (CR := []) (CW := (fun r => [(100000, .box [sq eI r.2.1, .int .i64 r.2.2])])) rfl (fun _ h => pilemake_Stream_Some.ok k r10.2.1 r10.2.2 [(rdE e_IS o3 r7.1).2, (⟨#[65]⟩ : ByteArray)] _ h) (fun i => bif Nat.beq i 100000 then 100000 else i) trivial (fun _ => rfl) ⟨_, _, _, _, rfl, rfl, rfl⟩ (LeL.cons (Le.refl _) (LeL.cons (Le.lit (E := eS) (l := [(rdE e_IS o3 r7.1).2, (⟨#[65]⟩ : ByteArray)]) (cells_of rfl)) (LeL.nil))) ⟨⟨_, rfl, LeO.refl _⟩, trivial⟩ (fun _ => rfl) (fun r11 => ?_)
            refine RD.req rfl (by first | rfl | simp) ?_
            refine RD.req rfl (by first | rfl | simp) ?_
            refine RD.req rfl ⟨by first | rfl | simp, elt_lt c8 (by first | exact c9 | simpa using c9)⟩ ?_
            refine RD.req rfl (by first | rfl | simp) ?_
            refine RD.req rfl (by first | rfl | simp) ?_
            refine RD.req rfl ⟨by first | rfl | simp, elt_lt c8 (by first | exact c9 | simpa using c9)⟩ ?_
            refine RD.fin pilemake_Stream_Shifts.k0 pilemake_Stream_Shifts.k1 rfl rfl (by decide +kernel) ?_
            refine RS.obj 3 (bufE e_IS ((o3.set (r7.1).toNat (r10.1, (rdE e_IS o3 r7.1).2)).set (r7.1).toNat ((rdE e_IS (o3.set (r7.1).toNat (r10.1, (rdE e_IS o3 r7.1).2)) r7.1).1, r11.1))) ⟨_, rfl, LeO.setE2 (l := o3) (l' := o3.set (r7.1).toNat (r10.1, (rdE e_IS o3 r7.1).2)) (by simp) (rep_set c8 (by first | exact c9 | simpa using c9) (all2 rfl rfl)) c8 (by first | exact c9 | simpa using c9) (all2 rfl rfl)⟩ ?_
            refine RS.go ?_
            refine RT.goto rfl ?_
            refine RS.weak [(3, .osl 3 e_IS.w 0 ((o3.set (r7.1).toNat (r10.1, (rdE e_IS o3 r7.1).2)).set (r7.1).toNat ((rdE e_IS (o3.set (r7.1).toNat (r10.1, (rdE e_IS o3 r7.1).2)) r7.1).1, r11.1)).length ((o3.set (r7.1).toNat (r10.1, (rdE e_IS o3 r7.1).2)).set (r7.1).toNat ((rdE e_IS (o3.set (r7.1).toNat (r10.1, (rdE e_IS o3 r7.1).2)) r7.1).1, r11.1)).length)] [(3, bufE e_IS ((o3.set (r7.1).toNat (r10.1, (rdE e_IS o3 r7.1).2)).set (r7.1).toNat ((rdE e_IS (o3.set (r7.1).toNat (r10.1, (rdE e_IS o3 r7.1).2)) r7.1).1, r11.1))), (100000, .box [sq eI r11.2.1, .int .i64 r11.2.2])] ⟨(by first | exact Le.oslN rfl (by first | rfl | simp) | exact Le.refl _ | exact Le.eq (by first | rfl | simp)), trivial⟩ ⟨⟨_, rfl, LeO.refl _⟩, ⟨_, rfl, LeO.refl _⟩, trivial⟩ rfl (dom_of rfl) ?_
            exact ih.1 ((o3.set (r7.1).toNat (r10.1, (rdE e_IS o3 r7.1).2)).set (r7.1).toNat ((rdE e_IS (o3.set (r7.1).toNat (r10.1, (rdE e_IS o3 r7.1).2)) r7.1).1, r11.1)) r11.2.1 r11.2.2 
          · refine RT.goto rfl ?_
            refine RS.weak [(3, .osl 3 e_IS.w 0 o3.length o3.length)] [(3, bufE e_IS o3), (100000, .box [sq eI r6.2.1, .int .i64 r6.2.2])] ⟨(by first | exact Le.oslN rfl (by first | rfl | simp) | exact Le.refl _ | exact Le.eq (by first | rfl | simp)), trivial⟩ ⟨⟨_, rfl, LeO.refl _⟩, ⟨_, rfl, LeO.refl _⟩, trivial⟩ rfl (dom_of rfl) ?_
            exact ih.1 o3 r6.2.1 r6.2.2 
        · refine RT.brF rfl ?_
          refine RT.brF rfl ?_
          refine RT.brF rfl ?_
          refine RT.goto rfl ?_
          refine RS.weak [(3, .osl 3 e_IS.w 0 o3.length o3.length)] [(3, bufE e_IS o3), (100000, .box [sq eI o100000_0, .int .i64 o100000_1])] ⟨(by first | exact Le.oslN rfl (by first | rfl | simp) | exact Le.refl _ | exact Le.eq (by first | rfl | simp)), trivial⟩ ⟨⟨_, rfl, LeO.refl _⟩, ⟨_, rfl, LeO.refl _⟩, trivial⟩ rfl (dom_of rfl) ?_
          exact ih.1 o3 o100000_0 o100000_1 
theorem pilemake_Stream_Shifts.ok (k : Nat) (p0_0 : List Int) (p0_1 : Int) (r : (List (Int × ByteArray)) × (List Int) × Int) (h : pilemake_Stream_Shifts.f k p0_0 p0_1 = some r) : Ct Tryd.prog B 6 [.ref 100000 0 0 0 2] (ofL [(100000, .box [sq eI p0_0, .int .i64 p0_1])]) (sq e_IS r.1) (ofL [(100000, .box [sq eI r.2.1, .int .i64 r.2.2])]) := by
  refine Ct.of (Y := (fam Tryd.f6 [11] [] [(100000, .box [sq eI p0_0, .int .i64 p0_1])] (fun r : (List (Int × ByteArray)) × (List Int) × Int => sq e_IS r.1) (fun r => [(100000, .box [sq eI r.2.1, .int .i64 r.2.2])]))) Tryd.func6 rfl Tryd.call6 rfl rfl ?_ r h
  unfold pilemake_Stream_Shifts.f
  refine RS.go ?_
  refine RT.goto rfl ?_
  refine RS.slot 7 (sq eI [0, 500, 1000000]) (Le.lit (E := eI) (l := [0, 500, 1000000]) (cells_of rfl)) ?_
  refine RS.go ?_
  refine RT.call rfl (fun _ h => pilemake_Stream_Pick.ok k p0_0 p0_1 [0, 500, 1000000] _ h) (fun i => bif Nat.beq i 100000 then 100000 else i) (LeL.eq rfl) ⟨⟨_, rfl, LeO.refl _⟩, trivial⟩ (fun _ => rfl) (fun r1 => ?_)
  refine RS.go ?_
  refine RT.call rfl (fun _ h => pilemake_Stream_Range.ok k r1.2.1 r1.2.2 0 6 _ h) (fun i => bif Nat.beq i 100000 then 100000 else i) (LeL.eq rfl) ⟨⟨_, rfl, LeO.refl _⟩, trivial⟩ (fun _ => rfl) (fun r2 => ?_)
  refine RS.go ?_
  refine RT.goto rfl ?_
  refine RS.ghost 3 3 e_IS.w (rep e_IS []) rfl rfl ?_
  refine RS.weak [(0, .ref 100000 0 0 0 2), (3, .osl 3 e_IS.w 0 ([] : List (Int × ByteArray)).length ([] : List (Int × ByteArray)).length), (4, .int .i64 r1.1), (10, .int .i64 r2.1), (11, .int .i64 0)] [(3, bufE e_IS ([] : List (Int × ByteArray))), (100000, .box [sq eI r2.2.1, .int .i64 r2.2.2])] ⟨Le.eq (by first | rfl | simp), (by first | exact Le.oslN rfl (by first | rfl | simp) | exact Le.refl _ | exact Le.eq (by first | rfl | simp)), Le.eq (by first | rfl | simp), Le.eq (by first | rfl | simp), Le.eq (by first | rfl | simp), trivial⟩ ⟨⟨_, rfl, LeO.refl _⟩, ⟨_, rfl, LeO.refl _⟩, trivial⟩ rfl (dom_of rfl) ?_
  exact (pilemake_Stream_Shifts.loops p0_0 p0_1 k).2 r1.1 r2.1 0 [] r2.2.1 r2.2.2 
/-! ### pileref1_in: function 60 -/
def pileref1_in.f (a0 : Int) (a1 : Int) (a2 : Int) : Option (Bool) := (if a1 ≤ a0 then Option.some (decide (a0 ≤ a2)) else Option.some false)
theorem pileref1_in.ok (a0 : Int) (a1 : Int) (a2 : Int) (r : Bool) (h : pileref1_in.f a0 a1 a2 = some r) : Ct Tryd.prog B 60 [.int .i64 a0, .int .i64 a1, .int .i64 a2] (ofL []) (.bool r) (ofL []) := by
  refine Ct.of (Y := (fam Tryd.f60 [] [] [] (fun r : Bool => .bool r) (fun r => []))) Tryd.func60 rfl Tryd.call60 rfl rfl ?_ r h
  unfold pileref1_in.f
  refine RS.go ?_
  refine RT.br rfl (fun c1 => ?_) (fun c1 => ?_)
  · refine RT.brT rfl ?_
    refine RT.brT rfl ?_
    refine RT.brT rfl ?_
    exact RT.done rfl rfl (Le.refl _) trivial rfl (dom0 rfl)
  · refine RT.brF rfl ?_
    refine RT.brF rfl ?_
    refine RT.brF rfl ?_
    exact RT.done rfl rfl (Le.refl _) trivial rfl (dom0 rfl)
/-! ### pileref1_SpanFault: function 41 -/
def pileref1_SpanFault.f (a0 : Int) (a1 : Int) (a2 : Int) : Option (Int) := ((pileref1_in.f a0 a1 a2).bind fun r1 => (if r1 = true then Option.some 0 else Option.some 1))
theorem pileref1_SpanFault.ok (a0 : Int) (a1 : Int) (a2 : Int) (r : Int) (h : pileref1_SpanFault.f a0 a1 a2 = some r) : Ct Tryd.prog B 41 [.int .i64 a0, .int .i64 a1, .int .i64 a2] (ofL []) (.int .i64 r) (ofL []) := by
  refine Ct.of (Y := (fam Tryd.f41 [] [] [] (fun r : Int => .int .i64 r) (fun r => []))) Tryd.func41 rfl Tryd.call41 rfl rfl ?_ r h
  unfold pileref1_SpanFault.f
  refine RS.go ?_
  refine RT.call0 rfl (fun _ h => pileref1_in.ok a0 a1 a2 _ h) (LeL.eq rfl) (fun _ => rfl) (fun r1 => ?_)
  refine RS.go ?_
  refine RT.brBN rfl (fun c2 => ?_) (fun c2 => ?_)
  · exact RT.done rfl rfl (Le.refl _) trivial rfl (dom0 rfl)
  · exact RT.done rfl rfl (Le.refl _) trivial rfl (dom0 rfl)
/-! ### pileref1_MomentFault: function 14 -/
def pileref1_MomentFault.f (a0 : Int) : Option (Int) := ((pileref1_SpanFault.f a0 0 345686399999).bind fun r1 => Option.some r1)
theorem pileref1_MomentFault.ok (a0 : Int) (r : Int) (h : pileref1_MomentFault.f a0 = some r) : Ct Tryd.prog B 14 [.int .i64 a0] (ofL []) (.int .i64 r) (ofL []) := by
  refine Ct.of (Y := (fam Tryd.f14 [] [] [] (fun r : Int => .int .i64 r) (fun r => []))) Tryd.func14 rfl Tryd.call14 rfl rfl ?_ r h
  unfold pileref1_MomentFault.f
  refine RS.go ?_
  refine RT.call0 rfl (fun _ h => pileref1_SpanFault.ok a0 0 345686399999 _ h) (LeL.eq rfl) (fun _ => rfl) (fun r1 => ?_)
  refine RS.go ?_
  exact RT.done rfl rfl (Le.refl _) trivial rfl (dom0 rfl)
def strings_Trim.f (a0 : ByteArray) (a1 : ByteArray) : Option (ByteArray) := if a0.size ≤ 9223372036854775807 ∧ a1.size < 4294967281 ∧ asciiT a1 = true then some (⟨(Lib.trimS a0.data.toList a1.data.toList).toArray⟩ : ByteArray) else none
theorem strings_Trim.ok (a0 : ByteArray) (a1 : ByteArray) (r : ByteArray) (h : strings_Trim.f a0 a1 = some r) : Ct Tryd.prog B 61 [.str a0, .str a1] (ofL []) (.str r) (ofL []) := by
  unfold strings_Trim.f at h
  split at h
  case isFalse => cases h
  case isTrue c =>
  cases h
  refine Ct.lib Tryd.call61 rfl rfl fun g w hb => (Go.Proofs.Any.strings_Trim_laid Tryd.lays160 (by kernel_rfl) a0 a1 w c.1 c.2.1 (asciiT_at c.2.2)).mono fun e w' ⟨he, hw⟩ => ⟨he, hw⟩

def strings_IndexByte.f (a0 : ByteArray) (a1 : Int) : Option (Int) := some (Lib.indexByte a0.data.toList a1.toNat.toUInt8)
theorem strings_IndexByte.ok (a0 : ByteArray) (a1 : Int) (r : Int) (h : strings_IndexByte.f a0 a1 = some r) : Ct Tryd.prog B 62 [.str a0, .int .u8 a1] (ofL []) (.int .i64 r) (ofL []) := by
  unfold strings_IndexByte.f at h
  cases h
  refine Ct.lib Tryd.call62 rfl rfl fun g w hb => (Tryd.strings_IndexByte a0 a1 w).mono fun e w' ⟨he, hw⟩ => ⟨he, hw ▸ Below.refl _ _⟩

/-! ### pileref1_Key: function 31 -/
def pileref1_Key.f (a0 : ByteArray) : Option (Bool) := ((pileref1_in.f (a0.size : Int) 1 40).bind fun r1 => (if r1 = true then ((strings_Trim.f a0 str_0).bind fun r2 => (if r2 = (⟨#[]⟩ : ByteArray) then (if 0 < (a0.size : Int) then ((strings_IndexByte.f str_1 (bt a0 0)).bind fun r4 => Option.some (decide (r4 ≥ 0))) else Option.none) else Option.some false)) else Option.some false))
theorem pileref1_Key.ok (a0 : ByteArray) (r : Bool) (h : pileref1_Key.f a0 = some r) : Ct Tryd.prog B 31 [.str a0] (ofL []) (.bool r) (ofL []) := by
  refine Ct.of (Y := (fam Tryd.f31 [] [] [] (fun r : Bool => .bool r) (fun r => []))) Tryd.func31 rfl Tryd.call31 rfl rfl ?_ r h
  unfold pileref1_Key.f
  refine RS.go ?_
  refine RT.call0 rfl (fun _ h => pileref1_in.ok (a0.size : Int) 1 40 _ h) (LeL.eq rfl) (fun _ => rfl) (fun r1 => ?_)
  refine RS.go ?_
  refine RT.brB rfl (fun c6 => ?_) (fun c6 => ?_)
  · refine RT.brT rfl ?_
    refine RT.call0 rfl (fun _ h => strings_Trim.ok a0 str_0 _ h) (LeL.eq rfl) (fun _ => rfl) (fun r2 => ?_)
    refine RS.go ?_
    refine RT.brT rfl ?_
    refine RT.brT rfl ?_
    refine RT.br rfl (fun c5 => ?_) (fun c5 => ?_)
    · refine RT.brT rfl ?_
      refine RT.brT rfl ?_
      refine RT.br rfl (fun c3 => ?_) (fun c3 => RT.none)
      refine RT.brT rfl ?_
      refine RT.call0 rfl (fun _ h => strings_IndexByte.ok str_1 (bt a0 0) _ h) (LeL.eq rfl) (fun _ => rfl) (fun r4 => ?_)
      refine RS.go ?_
      refine RT.brT rfl ?_
      refine RT.brT rfl ?_
      exact RT.done rfl rfl (Le.refl _) trivial rfl (dom0 rfl)
    · refine RT.brF rfl ?_
      refine RT.brF rfl ?_
      refine RT.brF rfl ?_
      refine RT.brF rfl ?_
      exact RT.done rfl rfl (Le.refl _) trivial rfl (dom0 rfl)
  · refine RT.brF rfl ?_
    refine RT.brF rfl ?_
    refine RT.brF rfl ?_
    refine RT.brF rfl ?_
    refine RT.brF rfl ?_
    refine RT.brF rfl ?_
    refine RT.brF rfl ?_
    refine RT.brF rfl ?_
    exact RT.done rfl rfl (Le.refl _) trivial rfl (dom0 rfl)
/-! ### slices_Clone_string_string: function 63 -/
def slices_Clone_string_string.f (l0 : List ByteArray) : Option ((List ByteArray)) := (if ([] : List ByteArray).length + l0.length ≤ 549755813888 then Option.some (([] : List ByteArray) ++ l0) else Option.none)
theorem slices_Clone_string_string.ok (l0 : List ByteArray) (r : (List ByteArray)) (h : slices_Clone_string_string.f l0 = some r) : Ct Tryd.prog B 63 [sq eS l0] (ofL []) (.osl 5 eS.w 0 r.length r.length) (ofL [(5, bufE eS r)]) := by
  refine Ct.of (Y := (fam Tryd.f63 [] [5] [] (fun r : (List ByteArray) => .osl 5 eS.w 0 r.length r.length) (fun r => [(5, bufE eS r)]))) Tryd.func63 rfl Tryd.call63 rfl rfl ?_ r h
  unfold slices_Clone_string_string.f
  refine RS.go ?_
  refine RT.nilq rfl (fun h1 => ?_) ?_
  · have h1 := List.eq_nil_of_length_eq_zero h1
    subst h1
    refine RT.conv (Option.some []) (by first | rfl | simp) ?_
    refine RT.brT rfl ?_
    refine RT.ghost 2 5 eS.w (rep eS []) rfl rfl rfl ?_
    exact RT.done rfl rfl (Le.refl _) ⟨⟨_, rfl, LeO.refl _⟩, trivial⟩ rfl (dom0 rfl)
  · refine RT.brF rfl ?_
    refine RT.goto rfl ?_
    refine RS.obj 5 (bufE eS ([] : List ByteArray)) ⟨_, rfl, LeO.lit (l := ([] : List ByteArray)) (cells_of rfl)⟩ ?_
    refine RS.slot 5 (.osl 5 eS.w 0 ([] : List ByteArray).length ([] : List ByteArray).length) (Le.oslN rfl (by simp)) ?_
    refine RS.go ?_
    refine RT.req rfl ⟨by first | rfl | simp, by first | exact Nat.le_refl _ | simp⟩ ?_
    refine RT.appL (E := eS) (l := ([] : List ByteArray)) (m := l0) rfl (fun _ _ _ _ => rfl) ?_
    refine RS.go ?_
    exact RT.done rfl rfl (Le.refl _) ⟨⟨_, rfl, LeO.refl _⟩, trivial⟩ rfl (dom0 rfl)
def slices_Sort_string_string.f (l0 : List ByteArray) : Option (List ByteArray) := if l0.length < 4611686018427387904 then some (sortB l0) else none
theorem slices_Sort_string_string.ok (l0 r : List ByteArray) (h : slices_Sort_string_string.f l0 = some r) : Ct Tryd.prog B 64 [.osl 100000 1 0 l0.length l0.length] (ofL [(100000, bufE eS l0)]) (.tup []) (ofL [(100000, bufE eS r)]) := by
  unfold slices_Sort_string_string.f at h
  split at h
  case isFalse => cases h
  case isTrue c =>
  cases h
  refine Ct.row (E := eS) (enc := Value.string) rfl (fun _ => rfl) (sortB_len l0) Tryd.call64 (fun b cap w hH hb _ => ?_) (fun hl p w => by subst hl; exact Tryd.slices_Sort_string_none p 0 w)
  have h1 := Tryd.slices_Sort_string b 0 cap (l0.map fun s => s.data.toList) w (strRow_holds hH) hb (by rw [List.length_map]; exact c)
  rw [List.length_map] at h1
  refine h1.mono fun e w' ⟨he, n, os, hw⟩ => ⟨he, n, os, ?_⟩
  rw [hw, ← sortB_map, strRow_put]

def slices_Compact_string_string.f (l0 : List ByteArray) : Option ((List ByteArray) × (List ByteArray)) := if l0.length ≤ 9223372036854775807 then some (compS l0, List.replicate (l0.length - (compS l0).length) ByteArray.empty) else none
theorem slices_Compact_string_string.ok (l0 : List ByteArray) (r : (List ByteArray) × (List ByteArray)) (h : slices_Compact_string_string.f l0 = some r) : Ct Tryd.prog B 65 [.osl 100000 1 0 l0.length l0.length] (ofL [(100000, bufE eS l0)]) (.osl 100000 1 0 r.1.length (r.1 ++ r.2).length) (ofL [(100000, bufE eS (r.1 ++ r.2))]) := by
  unfold slices_Compact_string_string.f at h
  split at h
  case isFalse => cases h
  case isTrue c =>
  cases h
  have hle := compS_len l0
  have hlc : (Lib.compact (l0.map fun s => s.data.toList)).length = (compS l0).length := by rw [← compS_map, List.length_map]
  refine Ct.rowCut (E := eS) (enc := Value.string) (l := l0) (a := compS l0) (t := List.replicate (l0.length - (compS l0).length) ByteArray.empty) rfl (fun _ => rfl) (by simp; omega) Tryd.call65 (fun b cap w hH hb hcap => ?_) (fun hl p w => by subst hl; exact Tryd.slices_Compact_string_empty p 0 w)
  have h1 := Tryd.slices_Compact_string b 0 cap (l0.map fun s => s.data.toList) w (strRow_holds hH) (by rw [List.length_map]; exact c) (by rw [List.length_map]; exact hcap)
  rw [List.length_map, hlc] at h1
  refine h1.mono fun e w' ⟨he, n, hw⟩ => ⟨he, n, #[], ?_⟩
  rw [Go.Sort.grow_empty, hw, ← strRow_put, List.map_append, compS_map, empty_map]

/-! ### pileref1_once: function 32 -/
def pileref1_once.f (l0 : List ByteArray) : Option ((List ByteArray)) := ((slices_Clone_string_string.f l0).bind fun r1 => ((slices_Sort_string_string.f r1).bind fun r2 => (if r1.length = r2.length then ((slices_Compact_string_string.f r2).bind fun r4 => Option.some r4.1) else Option.none)))
theorem pileref1_once.ok (l0 : List ByteArray) (r : (List ByteArray)) (h : pileref1_once.f l0 = some r) : Ct Tryd.prog B 32 [sq eS l0] (ofL []) (sq eS r) (ofL []) := by
  refine Ct.of (Y := (fam Tryd.f32 [] [] [] (fun r : (List ByteArray) => sq eS r) (fun r => []))) Tryd.func32 rfl Tryd.call32 rfl rfl ?_ r h
  unfold pileref1_once.f
  refine RS.go ?_
  refine RT.call rfl (fun _ h => slices_Clone_string_string.ok l0 _ h) (fun i => bif Nat.beq i 5 then 4 else i) (LeL.eq rfl) trivial (fun _ => rfl) (fun r1 => ?_)
  refine RS.go ?_
  refine RT.call rfl (fun _ h => slices_Sort_string_string.ok r1 _ h) (fun i => bif Nat.beq i 100000 then 4 else i) (LeL.eq rfl) ⟨⟨_, rfl, LeO.refl _⟩, trivial⟩ (fun _ => rfl) (fun r2 => ?_)
  refine RS.asm (fun c3 => ?_)
  refine RS.slot 0 (.osl 4 eS.w 0 r2.length r2.length) (Le.oslN rfl c3) ?_
  refine RS.slot 4 (.osl 4 eS.w 0 r2.length r2.length) (Le.oslN rfl c3) ?_
  refine RS.slot 5 (.osl 4 eS.w 0 r2.length r2.length) (Le.oslN rfl c3) ?_
  refine RS.go ?_
  refine RT.call rfl (fun _ h => slices_Compact_string_string.ok r2 _ h) (fun i => bif Nat.beq i 100000 then 4 else i) (LeL.eq rfl) ⟨⟨_, rfl, LeO.refl _⟩, trivial⟩ (fun _ => rfl) (fun r4 => ?_)
  refine RS.go ?_
  refine RT.freeze 4 _ _ _ [(2, .sl r4.1.length eS.w (rep eS (r4.1 ++ r4.2)))] [] rfl rfl ⟨.inr ⟨_, rfl, by first | exact Nat.le_refl _ | simp, rfl⟩, trivial⟩ trivial rfl (dom0 rfl) ?_
  exact RT.done rfl rfl Le.pre trivial rfl (dom0 rfl)
/-! ### pileref1_ShiftsFault: function 8 -/
def pileref1_ShiftsFault.k0 : List DK := [⟨[44], [], [31], []⟩, ⟨[34, 43], [], [44], []⟩, ⟨[34, 36, 42], [], [43], []⟩, ⟨[34, 41], [], [42], []⟩, ⟨[34, 40], [], [41], []⟩, ⟨[34, 37, 39], [], [40], []⟩, ⟨[34, 38], [], [39], []⟩, ⟨[34, 4], [], [38], []⟩, ⟨[34, 0], [], [37], []⟩, ⟨[34, 35], [5], [36], []⟩, ⟨[34, 5], [5], [35], []⟩, ⟨[33], [], [34], []⟩, ⟨[32], [], [33], []⟩, ⟨[4], [], [32], []⟩]
def pileref1_ShiftsFault.k1 : List Nat := [0, 1, 3, 7, 15, 7, 7, 71, 231, 487, 999, 2047, 4095, 8191]
def pileref1_ShiftsFault.k2 : List DK := [⟨[44], [], [31], []⟩, ⟨[34, 43], [], [44], []⟩, ⟨[34], [], [43], []⟩, ⟨[34], [], [42], []⟩, ⟨[34], [], [41], []⟩, ⟨[34], [], [40], []⟩, ⟨[34], [], [39], []⟩, ⟨[34], [], [38], []⟩, ⟨[34], [], [37], []⟩, ⟨[34], [], [36], []⟩, ⟨[34], [], [35], []⟩, ⟨[33], [], [34], []⟩, ⟨[32], [], [33], []⟩, ⟨[4], [], [32], []⟩]
mutual
def pileref1_ShiftsFault.j15 : Nat → List (Int × ByteArray) → Int → List ByteArray → Option (Int)
  | 0, _, _, _ => Option.none
  | k + 1, l0, x11, o3j15 => pileref1_ShiftsFault.l0 k l0 (wrap64 (x11 + 1)) o3j15
def pileref1_ShiftsFault.l0 : Nat → List (Int × ByteArray) → Int → List ByteArray → Option (Int)
  | 0, _, _, _ => Option.none
  | k + 1, l0, x11, o3 => (if x11 < (l0.length : Int) then (if 0 ≤ x11 then (if x11 < (l0.length : Int) then ((pileref1_MomentFault.f ((rdE e_IS l0 x11).1)).bind fun r3 => (if r3 = 0 then (if (rdE e_IS l0 x11).2 = (⟨#[]⟩ : ByteArray) then (if x11 > 0 then (if 0 ≤ wrap64 (x11 - 1) then (if wrap64 (x11 - 1) < (l0.length : Int) then (if (rdE e_IS l0 x11).1 ≤ (rdE e_IS l0 (wrap64 (x11 - 1))).1 then Option.some 7 else (if (rdE e_IS l0 x11).2 = (⟨#[]⟩ : ByteArray) then pileref1_ShiftsFault.j15 k l0 x11 o3 else (if o3.length + 1 ≤ 549755813888 then pileref1_ShiftsFault.j15 k l0 x11 (o3 ++ [(rdE e_IS l0 x11).2]) else Option.none))) else Option.none) else Option.none) else (if (rdE e_IS l0 x11).2 = (⟨#[]⟩ : ByteArray) then pileref1_ShiftsFault.j15 k l0 x11 o3 else (if o3.length + 1 ≤ 549755813888 then pileref1_ShiftsFault.j15 k l0 x11 (o3 ++ [(rdE e_IS l0 x11).2]) else Option.none))) else ((pileref1_Key.f ((rdE e_IS l0 x11).2)).bind fun r4 => (if r4 = true then (if x11 > 0 then (if 0 ≤ wrap64 (x11 - 1) then (if wrap64 (x11 - 1) < (l0.length : Int) then (if (rdE e_IS l0 x11).1 ≤ (rdE e_IS l0 (wrap64 (x11 - 1))).1 then Option.some 7 else (if (rdE e_IS l0 x11).2 = (⟨#[]⟩ : ByteArray) then pileref1_ShiftsFault.j15 k l0 x11 o3 else (if o3.length + 1 ≤ 549755813888 then pileref1_ShiftsFault.j15 k l0 x11 (o3 ++ [(rdE e_IS l0 x11).2]) else Option.none))) else Option.none) else Option.none) else (if (rdE e_IS l0 x11).2 = (⟨#[]⟩ : ByteArray) then pileref1_ShiftsFault.j15 k l0 x11 o3 else (if o3.length + 1 ≤ 549755813888 then pileref1_ShiftsFault.j15 k l0 x11 (o3 ++ [(rdE e_IS l0 x11).2]) else Option.none))) else Option.some 5))) else Option.some 1)) else Option.none) else Option.none) else ((pileref1_once.f o3).bind fun r24 => (if (r24.length : Int) > 50 then Option.some 2 else Option.some 0)))
end
def pileref1_ShiftsFault.f (k : Nat) (l0 : List (Int × ByteArray)) : Option (Int) := (if (l0.length : Int) > 500 then Option.some 2 else pileref1_ShiftsFault.l0 k l0 0 [])
theorem pileref1_ShiftsFault.loops : ∀ k, (∀ (l0 : List (Int × ByteArray)) (x11 : Int) (o3j15 : List ByteArray), RS (fam Tryd.f8 [15, 16] [] [] (fun r : Int => .int .i64 r) (fun r => [])) (Func.reg Tryd.f8 15) ⟨ofT [(0, sq e_IS l0), (3, .osl 3 eS.w 0 o3j15.length o3j15.length), (9, sq e_IS l0), (10, .int .i64 (l0.length : Int)), (11, .int .i64 x11)], ofL [(3, bufE eS o3j15)]⟩ (pileref1_ShiftsFault.j15 k l0 x11 o3j15)) ∧ (∀ (l0 : List (Int × ByteArray)) (x11 : Int) (o3 : List ByteArray), RS (fam Tryd.f8 [15, 16] [] [] (fun r : Int => .int .i64 r) (fun r => [])) (Func.head Tryd.f8 0) ⟨ofT [(0, sq e_IS l0), (3, .osl 3 eS.w 0 o3.length o3.length), (9, sq e_IS l0), (10, .int .i64 (l0.length : Int)), (11, .int .i64 x11)], ofL [(3, bufE eS o3)]⟩ (pileref1_ShiftsFault.l0 k l0 x11 o3))
  | 0 => ⟨by intro _ _ _; simp only [pileref1_ShiftsFault.j15]; exact RS.none, by intro _ _ _; simp only [pileref1_ShiftsFault.l0]; exact RS.none⟩
  | k + 1 => by
    have ih := pileref1_ShiftsFault.loops k
    refine ⟨?_, ?_⟩
    · intro l0 x11 o3j15
      simp only [pileref1_ShiftsFault.j15]
      refine RS.region ?_
      refine RS.go ?_
      refine RT.goto rfl ?_
      refine RS.weak [(0, sq e_IS l0), (3, .osl 3 eS.w 0 o3j15.length o3j15.length), (9, sq e_IS l0), (10, .int .i64 (l0.length : Int)), (11, .int .i64 (wrap64 (x11 + 1)))] [(3, bufE eS o3j15)] ⟨Le.eq (by first | rfl | simp), (by first | exact Le.oslN rfl (by first | rfl | simp) | exact Le.refl _ | exact Le.eq (by first | rfl | simp)), Le.eq (by first | rfl | simp), Le.eq (by first | rfl | simp), Le.eq (by first | rfl | simp), trivial⟩ ⟨⟨_, rfl, LeO.refl _⟩, trivial⟩ rfl (dom0 rfl) ?_
      exact ih.2 l0 (wrap64 (x11 + 1)) o3j15 
    · intro l0 x11 o3
      simp only [pileref1_ShiftsFault.l0]
      refine RS.go ?_
      refine RT.br rfl (fun c26 => ?_) (fun c26 => ?_)
      · refine RT.br rfl (fun c1 => ?_) (fun c1 => RT.none)
        refine RT.br rfl (fun c2 => ?_) (fun c2 => RT.none)
        refine RT.call0 rfl (fun _ h => pileref1_MomentFault.ok ((rdE e_IS l0 x11).1) _ h) (LeL.eq rfl) (fun _ => rfl) (fun r3 => ?_)
        refine RS.go ?_
        refine RT.brN rfl (fun c23 => ?_) (fun c23 => ?_)
        · refine RT.brN rfl (fun c22 => ?_) (fun c22 => ?_)
          · refine RT.brF rfl ?_
            refine RT.brF rfl ?_
            refine RT.brF rfl ?_
            refine RT.brF rfl ?_
            refine RT.brF rfl ?_
            refine RT.goto rfl ?_
            refine RS.draw rfl ?_
            refine RD.br rfl (fun c21 => ?_) (fun c21 => ?_)
            · refine RD.brT rfl ?_
              refine RD.brT rfl ?_
              refine RD.brT rfl ?_
              refine RD.brT rfl ?_
              refine RD.brT rfl ?_
              refine RD.br rfl (fun c14 => ?_) (fun c14 => RD.none)
              refine RD.br rfl (fun c15 => ?_) (fun c15 => RD.none)
              refine RD.brT rfl ?_
              refine RD.brT rfl ?_
              refine RD.brT rfl ?_
              refine RD.brT rfl ?_
              refine RD.fin pileref1_ShiftsFault.k0 pileref1_ShiftsFault.k1 rfl rfl (by decide +kernel) ?_
              refine RS.go ?_
              refine RT.br rfl (fun c18 => ?_) (fun c18 => ?_)
              · exact RT.done rfl rfl (Le.refl _) trivial rfl (dom0 rfl)
              · refine RT.brN rfl (fun c17 => ?_) (fun c17 => ?_)
                · refine RT.goto rfl ?_
                  refine RS.weak [(0, sq e_IS l0), (3, .osl 3 eS.w 0 o3.length o3.length), (9, sq e_IS l0), (10, .int .i64 (l0.length : Int)), (11, .int .i64 x11)] [(3, bufE eS o3)] ⟨Le.eq (by first | rfl | simp), (by first | exact Le.oslN rfl (by first | rfl | simp) | exact Le.refl _ | exact Le.eq (by first | rfl | simp)), Le.eq (by first | rfl | simp), Le.eq (by first | rfl | simp), Le.eq (by first | rfl | simp), trivial⟩ ⟨⟨_, rfl, LeO.refl _⟩, trivial⟩ rfl (dom0 rfl) ?_
                  exact ih.1 l0 x11 o3 
                · refine RT.goto rfl ?_
                  refine RS.slot 51 (sq eS [(rdE e_IS l0 x11).2]) (Le.lit (E := eS) (l := [(rdE e_IS l0 x11).2]) (cells_of rfl)) ?_
                  refine RS.go ?_
                  refine RT.req rfl ⟨by first | rfl | simp, by first | exact Nat.le_refl _ | simp⟩ ?_
                  refine RT.not rfl (by simp <;> omega) ?_
                  refine RT.br rfl (fun c16 => ?_) (fun _ => RT.none)
                  refine RT.goto rfl ?_
                  refine RS.obj 3 (bufE eS (o3 ++ [(rdE e_IS l0 x11).2])) ⟨_, rfl, LeO.app (l := o3) (m := [(rdE e_IS l0 x11).2]) fun _ _ _ _ => rfl⟩ ?_
                  refine RS.slot 52 (.osl 3 eS.w 0 (o3 ++ [(rdE e_IS l0 x11).2]).length (o3 ++ [(rdE e_IS l0 x11).2]).length) (by first | exact Le.oslN rfl (by simp) | exact Le.trans (y := .osl 3 eS.w 0 (o3.length + 1) (o3.length + 1)) (Le.refl _) (Le.oslN rfl (by simp))) ?_
                  refine RS.go ?_
                  refine RT.goto rfl ?_
                  refine RS.weak [(0, sq e_IS l0), (3, .osl 3 eS.w 0 (o3 ++ [(rdE e_IS l0 x11).2]).length (o3 ++ [(rdE e_IS l0 x11).2]).length), (9, sq e_IS l0), (10, .int .i64 (l0.length : Int)), (11, .int .i64 x11)] [(3, bufE eS (o3 ++ [(rdE e_IS l0 x11).2]))] ⟨Le.eq (by first | rfl | simp), (by first | exact Le.oslN rfl (by first | rfl | simp) | exact Le.refl _ | exact Le.eq (by first | rfl | simp)), Le.eq (by first | rfl | simp), Le.eq (by first | rfl | simp), Le.eq (by first | rfl | simp), trivial⟩ ⟨⟨_, rfl, LeO.refl _⟩, trivial⟩ rfl (dom0 rfl) ?_
                  exact ih.1 l0 x11 (o3 ++ [(rdE e_IS l0 x11).2]) 
            · refine RD.brF rfl ?_
              refine RD.brF rfl ?_
              refine RD.brF rfl ?_
              refine RD.brF rfl ?_
              refine RD.brF rfl ?_
              refine RD.brF rfl ?_
              refine RD.brF rfl ?_
              refine RD.brF rfl ?_
              refine RD.brF rfl ?_
              refine RD.fin pileref1_ShiftsFault.k2 pileref1_ShiftsFault.k1 rfl rfl (by decide +kernel) ?_
              refine RS.go ?_
              refine RT.brF rfl ?_
              refine RT.brN rfl (fun c20 => ?_) (fun c20 => ?_)
              · refine RT.goto rfl ?_
                refine RS.weak [(0, sq e_IS l0), (3, .osl 3 eS.w 0 o3.length o3.length), (9, sq e_IS l0), (10, .int .i64 (l0.length : Int)), (11, .int .i64 x11)] [(3, bufE eS o3)] ⟨Le.eq (by first | rfl | simp), (by first | exact Le.oslN rfl (by first | rfl | simp) | exact Le.refl _ | exact Le.eq (by first | rfl | simp)), Le.eq (by first | rfl | simp), Le.eq (by first | rfl | simp), Le.eq (by first | rfl | simp), trivial⟩ ⟨⟨_, rfl, LeO.refl _⟩, trivial⟩ rfl (dom0 rfl) ?_
                exact ih.1 l0 x11 o3 
              · refine RT.goto rfl ?_
                refine RS.slot 51 (sq eS [(rdE e_IS l0 x11).2]) (Le.lit (E := eS) (l := [(rdE e_IS l0 x11).2]) (cells_of rfl)) ?_
                refine RS.go ?_
                refine RT.req rfl ⟨by first | rfl | simp, by first | exact Nat.le_refl _ | simp⟩ ?_
                refine RT.not rfl (by simp <;> omega) ?_
                refine RT.br rfl (fun c19 => ?_) (fun _ => RT.none)
                refine RT.goto rfl ?_
                refine RS.obj 3 (bufE eS (o3 ++ [(rdE e_IS l0 x11).2])) ⟨_, rfl, LeO.app (l := o3) (m := [(rdE e_IS l0 x11).2]) fun _ _ _ _ => rfl⟩ ?_
                refine RS.slot 52 (.osl 3 eS.w 0 (o3 ++ [(rdE e_IS l0 x11).2]).length (o3 ++ [(rdE e_IS l0 x11).2]).length) (by first | exact Le.oslN rfl (by simp) | exact Le.trans (y := .osl 3 eS.w 0 (o3.length + 1) (o3.length + 1)) (Le.refl _) (Le.oslN rfl (by simp))) ?_
                refine RS.go ?_
                refine RT.goto rfl ?_
                refine RS.weak [(0, sq e_IS l0), (3, .osl 3 eS.w 0 (o3 ++ [(rdE e_IS l0 x11).2]).length (o3 ++ [(rdE e_IS l0 x11).2]).length), (9, sq e_IS l0), (10, .int .i64 (l0.length : Int)), (11, .int .i64 x11)] [(3, bufE eS (o3 ++ [(rdE e_IS l0 x11).2]))] ⟨Le.eq (by first | rfl | simp), (by first | exact Le.oslN rfl (by first | rfl | simp) | exact Le.refl _ | exact Le.eq (by first | rfl | simp)), Le.eq (by first | rfl | simp), Le.eq (by first | rfl | simp), Le.eq (by first | rfl | simp), trivial⟩ ⟨⟨_, rfl, LeO.refl _⟩, trivial⟩ rfl (dom0 rfl) ?_
                exact ih.1 l0 x11 (o3 ++ [(rdE e_IS l0 x11).2]) 
          · refine RT.brT rfl ?_
            refine RT.brT rfl ?_
            refine RT.call0 rfl (fun _ h => pileref1_Key.ok ((rdE e_IS l0 x11).2) _ h) (LeL.eq rfl) (fun _ => rfl) (fun r4 => ?_)
            refine RS.go ?_
            refine RT.brT rfl ?_
            refine RT.brT rfl ?_
            refine RT.brBN rfl (fun c13 => ?_) (fun c13 => ?_)
            · refine RT.goto rfl ?_
              refine RS.draw rfl ?_
              refine RD.br rfl (fun c12 => ?_) (fun c12 => ?_)
              · refine RD.brT rfl ?_
                refine RD.brT rfl ?_
                refine RD.brT rfl ?_
                refine RD.brT rfl ?_
                refine RD.brT rfl ?_
                refine RD.br rfl (fun c5 => ?_) (fun c5 => RD.none)
                refine RD.br rfl (fun c6 => ?_) (fun c6 => RD.none)
                refine RD.brT rfl ?_
                refine RD.brT rfl ?_
                refine RD.brT rfl ?_
                refine RD.brT rfl ?_
                refine RD.fin pileref1_ShiftsFault.k0 pileref1_ShiftsFault.k1 rfl rfl (by decide +kernel) ?_
                refine RS.go ?_
                refine RT.br rfl (fun c9 => ?_) (fun c9 => ?_)
                · exact RT.done rfl rfl (Le.refl _) trivial rfl (dom0 rfl)
                · refine RT.brN rfl (fun c8 => ?_) (fun c8 => ?_)
                  · refine RT.goto rfl ?_
                    refine RS.weak [(0, sq e_IS l0), (3, .osl 3 eS.w 0 o3.length o3.length), (9, sq e_IS l0), (10, .int .i64 (l0.length : Int)), (11, .int .i64 x11)] [(3, bufE eS o3)] ⟨Le.eq (by first | rfl | simp), (by first | exact Le.oslN rfl (by first | rfl | simp) | exact Le.refl _ | exact Le.eq (by first | rfl | simp)), Le.eq (by first | rfl | simp), Le.eq (by first | rfl | simp), Le.eq (by first | rfl | simp), trivial⟩ ⟨⟨_, rfl, LeO.refl _⟩, trivial⟩ rfl (dom0 rfl) ?_
                    exact ih.1 l0 x11 o3 
                  · refine RT.goto rfl ?_
                    refine RS.slot 51 (sq eS [(rdE e_IS l0 x11).2]) (Le.lit (E := eS) (l := [(rdE e_IS l0 x11).2]) (cells_of rfl)) ?_
                    refine RS.go ?_
                    refine RT.req rfl ⟨by first | rfl | simp, by first | exact Nat.le_refl _ | simp⟩ ?_
                    refine RT.not rfl (by simp <;> omega) ?_
                    refine RT.br rfl (fun c7 => ?_) (fun _ => RT.none)
                    refine RT.goto rfl ?_
                    refine RS.obj 3 (bufE eS (o3 ++ [(rdE e_IS l0 x11).2])) ⟨_, rfl, LeO.app (l := o3) (m := [(rdE e_IS l0 x11).2]) fun _ _ _ _ => rfl⟩ ?_
                    refine RS.slot 52 (.osl 3 eS.w 0 (o3 ++ [(rdE e_IS l0 x11).2]).length (o3 ++ [(rdE e_IS l0 x11).2]).length) (by first | exact Le.oslN rfl (by simp) | exact Le.trans (y := .osl 3 eS.w 0 (o3.length + 1) (o3.length + 1)) (Le.refl _) (Le.oslN rfl (by simp))) ?_
                    refine RS.go ?_
                    refine RT.goto rfl ?_
                    refine RS.weak [(0, sq e_IS l0), (3, .osl 3 eS.w 0 (o3 ++ [(rdE e_IS l0 x11).2]).length (o3 ++ [(rdE e_IS l0 x11).2]).length), (9, sq e_IS l0), (10, .int .i64 (l0.length : Int)), (11, .int .i64 x11)] [(3, bufE eS (o3 ++ [(rdE e_IS l0 x11).2]))] ⟨Le.eq (by first | rfl | simp), (by first | exact Le.oslN rfl (by first | rfl | simp) | exact Le.refl _ | exact Le.eq (by first | rfl | simp)), Le.eq (by first | rfl | simp), Le.eq (by first | rfl | simp), Le.eq (by first | rfl | simp), trivial⟩ ⟨⟨_, rfl, LeO.refl _⟩, trivial⟩ rfl (dom0 rfl) ?_
                    exact ih.1 l0 x11 (o3 ++ [(rdE e_IS l0 x11).2]) 
              · refine RD.brF rfl ?_
                refine RD.brF rfl ?_
                refine RD.brF rfl ?_
                refine RD.brF rfl ?_
                refine RD.brF rfl ?_
                refine RD.brF rfl ?_
                refine RD.brF rfl ?_
                refine RD.brF rfl ?_
                refine RD.brF rfl ?_
                refine RD.fin pileref1_ShiftsFault.k2 pileref1_ShiftsFault.k1 rfl rfl (by decide +kernel) ?_
                refine RS.go ?_
                refine RT.brF rfl ?_
                refine RT.brN rfl (fun c11 => ?_) (fun c11 => ?_)
                · refine RT.goto rfl ?_
                  refine RS.weak [(0, sq e_IS l0), (3, .osl 3 eS.w 0 o3.length o3.length), (9, sq e_IS l0), (10, .int .i64 (l0.length : Int)), (11, .int .i64 x11)] [(3, bufE eS o3)] ⟨Le.eq (by first | rfl | simp), (by first | exact Le.oslN rfl (by first | rfl | simp) | exact Le.refl _ | exact Le.eq (by first | rfl | simp)), Le.eq (by first | rfl | simp), Le.eq (by first | rfl | simp), Le.eq (by first | rfl | simp), trivial⟩ ⟨⟨_, rfl, LeO.refl _⟩, trivial⟩ rfl (dom0 rfl) ?_
                  exact ih.1 l0 x11 o3 
                · refine RT.goto rfl ?_
                  refine RS.slot 51 (sq eS [(rdE e_IS l0 x11).2]) (Le.lit (E := eS) (l := [(rdE e_IS l0 x11).2]) (cells_of rfl)) ?_
                  refine RS.go ?_
                  refine RT.req rfl ⟨by first | rfl | simp, by first | exact Nat.le_refl _ | simp⟩ ?_
                  refine RT.not rfl (by simp <;> omega) ?_
                  refine RT.br rfl (fun c10 => ?_) (fun _ => RT.none)
                  refine RT.goto rfl ?_
                  refine RS.obj 3 (bufE eS (o3 ++ [(rdE e_IS l0 x11).2])) ⟨_, rfl, LeO.app (l := o3) (m := [(rdE e_IS l0 x11).2]) fun _ _ _ _ => rfl⟩ ?_
                  refine RS.slot 52 (.osl 3 eS.w 0 (o3 ++ [(rdE e_IS l0 x11).2]).length (o3 ++ [(rdE e_IS l0 x11).2]).length) (by first | exact Le.oslN rfl (by simp) | exact Le.trans (y := .osl 3 eS.w 0 (o3.length + 1) (o3.length + 1)) (Le.refl _) (Le.oslN rfl (by simp))) ?_
                  refine RS.go ?_
                  refine RT.goto rfl ?_
                  refine RS.weak [(0, sq e_IS l0), (3, .osl 3 eS.w 0 (o3 ++ [(rdE e_IS l0 x11).2]).length (o3 ++ [(rdE e_IS l0 x11).2]).length), (9, sq e_IS l0), (10, .int .i64 (l0.length : Int)), (11, .int .i64 x11)] [(3, bufE eS (o3 ++ [(rdE e_IS l0 x11).2]))] ⟨Le.eq (by first | rfl | simp), (by first | exact Le.oslN rfl (by first | rfl | simp) | exact Le.refl _ | exact Le.eq (by first | rfl | simp)), Le.eq (by first | rfl | simp), Le.eq (by first | rfl | simp), Le.eq (by first | rfl | simp), trivial⟩ ⟨⟨_, rfl, LeO.refl _⟩, trivial⟩ rfl (dom0 rfl) ?_
                  exact ih.1 l0 x11 (o3 ++ [(rdE e_IS l0 x11).2]) 
            · exact RT.done rfl rfl (Le.refl _) trivial rfl (dom0 rfl)
        · exact RT.done rfl rfl (Le.refl _) trivial rfl (dom0 rfl)
      · refine RT.goto rfl ?_
        refine RS.freeze 3 _ _ _ [(3, sq eS o3)] [] rfl ⟨.inr ⟨_, rfl, by first | exact Nat.le_refl _ | simp, rfl⟩, trivial⟩ trivial rfl (dom0 rfl) ?_
        refine RS.region ?_
        refine RS.go ?_
        refine RT.call0 rfl (fun _ h => pileref1_once.ok o3 _ h) (LeL.eq rfl) (fun _ => rfl) (fun r24 => ?_)
        refine RS.go ?_
        refine RT.br rfl (fun c25 => ?_) (fun c25 => ?_)
        · exact RT.done rfl rfl (Le.refl _) trivial rfl (dom0 rfl)
        · exact RT.done rfl rfl (Le.refl _) trivial rfl (dom0 rfl)
theorem pileref1_ShiftsFault.ok (k : Nat) (l0 : List (Int × ByteArray)) (r : Int) (h : pileref1_ShiftsFault.f k l0 = some r) : Ct Tryd.prog B 8 [sq e_IS l0] (ofL []) (.int .i64 r) (ofL []) := by
  refine Ct.of (Y := (fam Tryd.f8 [15, 16] [] [] (fun r : Int => .int .i64 r) (fun r => []))) Tryd.func8 rfl Tryd.call8 rfl rfl ?_ r h
  unfold pileref1_ShiftsFault.f
  refine RS.go ?_
  refine RT.br rfl (fun c27 => ?_) (fun c27 => ?_)
  · exact RT.done rfl rfl (Le.refl _) trivial rfl (dom0 rfl)
  · refine RT.goto rfl ?_
    refine RS.ghost 3 3 eS.w (rep eS []) rfl rfl ?_
    refine RS.weak [(0, sq e_IS l0), (3, .osl 3 eS.w 0 ([] : List ByteArray).length ([] : List ByteArray).length), (9, sq e_IS l0), (10, .int .i64 (l0.length : Int)), (11, .int .i64 0)] [(3, bufE eS ([] : List ByteArray))] ⟨Le.eq (by first | rfl | simp), (by first | exact Le.oslN rfl (by first | rfl | simp) | exact Le.refl _ | exact Le.eq (by first | rfl | simp)), Le.eq (by first | rfl | simp), Le.eq (by first | rfl | simp), Le.eq (by first | rfl | simp), trivial⟩ ⟨⟨_, rfl, LeO.refl _⟩, trivial⟩ rfl (dom0 rfl) ?_
    exact (pileref1_ShiftsFault.loops k).2 l0 0 [] 
/-! ### kit_Outside: function 66 -/
def kit_Outside.f (a0 : Int) (a1 : Int) (a2 : Int) : Option (Bool) := (if a0 < a1 then Option.some true else Option.some (decide (a0 > a2)))
theorem kit_Outside.ok (a0 : Int) (a1 : Int) (a2 : Int) (r : Bool) (h : kit_Outside.f a0 a1 a2 = some r) : Ct Tryd.prog B 66 [.int .i64 a0, .int .i64 a1, .int .i64 a2] (ofL []) (.bool r) (ofL []) := by
  refine Ct.of (Y := (fam Tryd.f66 [] [] [] (fun r : Bool => .bool r) (fun r => []))) Tryd.func66 rfl Tryd.call66 rfl rfl ?_ r h
  unfold kit_Outside.f
  refine RS.go ?_
  refine RT.br rfl (fun c1 => ?_) (fun c1 => ?_)
  · refine RT.brT rfl ?_
    refine RT.brT rfl ?_
    refine RT.brT rfl ?_
    exact RT.done rfl rfl (Le.refl _) trivial rfl (dom0 rfl)
  · refine RT.brF rfl ?_
    refine RT.brF rfl ?_
    refine RT.brF rfl ?_
    exact RT.done rfl rfl (Le.refl _) trivial rfl (dom0 rfl)
/-! ### kit_IsMoment: function 33 -/
def kit_IsMoment.f (a0 : Int) : Option (Bool) := ((kit_Outside.f a0 0 345686399999).bind fun r1 => Option.some (!r1))
theorem kit_IsMoment.ok (a0 : Int) (r : Bool) (h : kit_IsMoment.f a0 = some r) : Ct Tryd.prog B 33 [.int .i64 a0] (ofL []) (.bool r) (ofL []) := by
  refine Ct.of (Y := (fam Tryd.f33 [] [] [] (fun r : Bool => .bool r) (fun r => []))) Tryd.func33 rfl Tryd.call33 rfl rfl ?_ r h
  unfold kit_IsMoment.f
  refine RS.go ?_
  refine RT.call0 rfl (fun _ h => kit_Outside.ok a0 0 345686399999 _ h) (LeL.eq rfl) (fun _ => rfl) (fun r1 => ?_)
  refine RS.go ?_
  exact RT.done rfl rfl (Le.refl _) trivial rfl (dom0 rfl)
/-! ### kit_IsKey: function 67 -/
def kit_IsKey.f (a0 : ByteArray) : Option (Bool) := (if a0 = (⟨#[]⟩ : ByteArray) then Option.some false else (if (a0.size : Int) ≤ 40 then (if 0 < (a0.size : Int) then ((strings_IndexByte.f str_1 (bt a0 0)).bind fun r2 => (if r2 ≥ 0 then ((strings_Trim.f a0 str_0).bind fun r3 => Option.some (decide (r3 = (⟨#[]⟩ : ByteArray)))) else Option.some false)) else Option.none) else Option.some false))
theorem kit_IsKey.ok (a0 : ByteArray) (r : Bool) (h : kit_IsKey.f a0 = some r) : Ct Tryd.prog B 67 [.str a0] (ofL []) (.bool r) (ofL []) := by
  refine Ct.of (Y := (fam Tryd.f67 [] [] [] (fun r : Bool => .bool r) (fun r => []))) Tryd.func67 rfl Tryd.call67 rfl rfl ?_ r h
  unfold kit_IsKey.f
  refine RS.go ?_
  refine RT.brN rfl (fun c6 => ?_) (fun c6 => ?_)
  · refine RT.brF rfl ?_
    refine RT.brF rfl ?_
    refine RT.brF rfl ?_
    refine RT.brF rfl ?_
    refine RT.brF rfl ?_
    refine RT.brF rfl ?_
    refine RT.brF rfl ?_
    refine RT.brF rfl ?_
    refine RT.brF rfl ?_
    refine RT.brF rfl ?_
    refine RT.brF rfl ?_
    refine RT.brF rfl ?_
    exact RT.done rfl rfl (Le.refl _) trivial rfl (dom0 rfl)
  · refine RT.brT rfl ?_
    refine RT.brT rfl ?_
    refine RT.brT rfl ?_
    refine RT.br rfl (fun c5 => ?_) (fun c5 => ?_)
    · refine RT.brT rfl ?_
      refine RT.brT rfl ?_
      refine RT.br rfl (fun c1 => ?_) (fun c1 => RT.none)
      refine RT.brT rfl ?_
      refine RT.call0 rfl (fun _ h => strings_IndexByte.ok str_1 (bt a0 0) _ h) (LeL.eq rfl) (fun _ => rfl) (fun r2 => ?_)
      refine RS.go ?_
      refine RT.brT rfl ?_
      refine RT.brT rfl ?_
      refine RT.br rfl (fun c4 => ?_) (fun c4 => ?_)
      · refine RT.brT rfl ?_
        refine RT.call0 rfl (fun _ h => strings_Trim.ok a0 str_0 _ h) (LeL.eq rfl) (fun _ => rfl) (fun r3 => ?_)
        refine RS.go ?_
        refine RT.brT rfl ?_
        refine RT.brT rfl ?_
        exact RT.done rfl rfl (Le.refl _) trivial rfl (dom0 rfl)
      · refine RT.brF rfl ?_
        refine RT.brF rfl ?_
        refine RT.brF rfl ?_
        exact RT.done rfl rfl (Le.refl _) trivial rfl (dom0 rfl)
    · refine RT.brF rfl ?_
      refine RT.brF rfl ?_
      refine RT.brF rfl ?_
      refine RT.brF rfl ?_
      refine RT.brF rfl ?_
      refine RT.brF rfl ?_
      refine RT.brF rfl ?_
      refine RT.brF rfl ?_
      exact RT.done rfl rfl (Le.refl _) trivial rfl (dom0 rfl)
/-! ### kit_IsName: function 34 -/
def kit_IsName.f (a0 : ByteArray) : Option (Bool) := (if a0 = (⟨#[]⟩ : ByteArray) then Option.some true else ((kit_IsKey.f a0).bind fun r1 => Option.some r1))
theorem kit_IsName.ok (a0 : ByteArray) (r : Bool) (h : kit_IsName.f a0 = some r) : Ct Tryd.prog B 34 [.str a0] (ofL []) (.bool r) (ofL []) := by
  refine Ct.of (Y := (fam Tryd.f34 [] [] [] (fun r : Bool => .bool r) (fun r => []))) Tryd.func34 rfl Tryd.call34 rfl rfl ?_ r h
  unfold kit_IsName.f
  refine RS.go ?_
  refine RT.br rfl (fun c2 => ?_) (fun c2 => ?_)
  · refine RT.brT rfl ?_
    refine RT.brT rfl ?_
    exact RT.done rfl rfl (Le.refl _) trivial rfl (dom0 rfl)
  · refine RT.brF rfl ?_
    refine RT.call0 rfl (fun _ h => kit_IsKey.ok a0 _ h) (LeL.eq rfl) (fun _ => rfl) (fun r1 => ?_)
    refine RS.go ?_
    refine RT.brF rfl ?_
    exact RT.done rfl rfl (Le.refl _) trivial rfl (dom0 rfl)
/-! ### rate_CheckShifts: function 9 -/
def rate_CheckShifts.k0 : List DK := [⟨[40], [], [27], []⟩, ⟨[30, 39], [], [40], []⟩, ⟨[30, 32, 38], [], [39], []⟩, ⟨[30, 37], [], [38], []⟩, ⟨[30, 36], [], [37], []⟩, ⟨[30, 33, 35], [], [36], []⟩, ⟨[30, 34], [], [35], []⟩, ⟨[30, 4], [], [34], []⟩, ⟨[30, 0], [], [33], []⟩, ⟨[30, 31], [5], [32], []⟩, ⟨[30, 5], [5], [31], []⟩, ⟨[29], [], [30], []⟩, ⟨[28], [], [29], []⟩, ⟨[4], [], [28], []⟩]
def rate_CheckShifts.k1 : List Nat := [0, 1, 3, 7, 15, 7, 7, 71, 231, 487, 999, 2047, 4095, 8191]
def rate_CheckShifts.k2 : List DK := [⟨[40], [], [27], []⟩, ⟨[30, 39], [], [40], []⟩, ⟨[30], [], [39], []⟩, ⟨[30], [], [38], []⟩, ⟨[30], [], [37], []⟩, ⟨[30], [], [36], []⟩, ⟨[30], [], [35], []⟩, ⟨[30], [], [34], []⟩, ⟨[30], [], [33], []⟩, ⟨[30], [], [32], []⟩, ⟨[30], [], [31], []⟩, ⟨[29], [], [30], []⟩, ⟨[28], [], [29], []⟩, ⟨[4], [], [28], []⟩]
mutual
def rate_CheckShifts.j15 : Nat → List (Int × ByteArray) → Int → List (ByteArray × Bool) → Option (Int)
  | 0, _, _, _ => Option.none
  | k + 1, l0, x12, o9j15 => rate_CheckShifts.l0 k l0 (wrap64 (x12 + 1)) o9j15
def rate_CheckShifts.l0 : Nat → List (Int × ByteArray) → Int → List (ByteArray × Bool) → Option (Int)
  | 0, _, _, _ => Option.none
  | k + 1, l0, x12, o9 => (if x12 < (l0.length : Int) then (if 0 ≤ x12 then (if x12 < (l0.length : Int) then ((kit_IsMoment.f ((rdE e_IS l0 x12).1)).bind fun r3 => (if r3 = true then ((kit_IsName.f ((rdE e_IS l0 x12).2)).bind fun r4 => (if r4 = true then (if x12 > 0 then (if 0 ≤ wrap64 (x12 - 1) then (if wrap64 (x12 - 1) < (l0.length : Int) then (if (rdE e_IS l0 x12).1 ≤ (rdE e_IS l0 (wrap64 (x12 - 1))).1 then Option.some 7 else (if (rdE e_IS l0 x12).2 = (⟨#[]⟩ : ByteArray) then rate_CheckShifts.j15 k l0 x12 o9 else rate_CheckShifts.j15 k l0 x12 (mput o9 ((rdE e_IS l0 x12).2) true))) else Option.none) else Option.none) else (if (rdE e_IS l0 x12).2 = (⟨#[]⟩ : ByteArray) then rate_CheckShifts.j15 k l0 x12 o9 else rate_CheckShifts.j15 k l0 x12 (mput o9 ((rdE e_IS l0 x12).2) true))) else Option.some 5)) else Option.some 1)) else Option.none) else Option.none) else (if ((List.map Prod.fst o9).length : Int) > 50 then Option.some 2 else Option.some 0))
end
def rate_CheckShifts.f (k : Nat) (l0 : List (Int × ByteArray)) : Option (Int) := (if (l0.length : Int) > 500 then Option.some 2 else rate_CheckShifts.l0 k l0 0 ([] : List (ByteArray × Bool)))
theorem rate_CheckShifts.loops : ∀ k, (∀ (l0 : List (Int × ByteArray)) (x12 : Int) (o9j15 : List (ByteArray × Bool)), RS (fam Tryd.f9 [15] [] [] (fun r : Int => .int .i64 r) (fun r => [])) (Func.reg Tryd.f9 15) ⟨ofT [(0, sq e_IS l0), (3, .omap 9), (10, sq e_IS l0), (11, .int .i64 (l0.length : Int)), (12, .int .i64 x12)], ofL [(9, mapE KL.strs (false : Bool) AV.bool o9j15)]⟩ (rate_CheckShifts.j15 k l0 x12 o9j15)) ∧ (∀ (l0 : List (Int × ByteArray)) (x12 : Int) (o9 : List (ByteArray × Bool)), RS (fam Tryd.f9 [15] [] [] (fun r : Int => .int .i64 r) (fun r => [])) (Func.head Tryd.f9 0) ⟨ofT [(0, sq e_IS l0), (3, .omap 9), (10, sq e_IS l0), (11, .int .i64 (l0.length : Int)), (12, .int .i64 x12)], ofL [(9, mapE KL.strs (false : Bool) AV.bool o9)]⟩ (rate_CheckShifts.l0 k l0 x12 o9))
  | 0 => ⟨by intro _ _ _; simp only [rate_CheckShifts.j15]; exact RS.none, by intro _ _ _; simp only [rate_CheckShifts.l0]; exact RS.none⟩
  | k + 1 => by
    have ih := rate_CheckShifts.loops k
    refine ⟨?_, ?_⟩
    · intro l0 x12 o9j15
      simp only [rate_CheckShifts.j15]
      refine RS.region ?_
      refine RS.go ?_
      refine RT.goto rfl ?_
      refine RS.weak [(0, sq e_IS l0), (3, .omap 9), (10, sq e_IS l0), (11, .int .i64 (l0.length : Int)), (12, .int .i64 (wrap64 (x12 + 1)))] [(9, mapE KL.strs (false : Bool) AV.bool o9j15)] ⟨Le.eq (by first | rfl | simp), Le.eq (by first | rfl | simp), Le.eq (by first | rfl | simp), Le.eq (by first | rfl | simp), Le.eq (by first | rfl | simp), trivial⟩ ⟨⟨_, rfl, LeO.refl _⟩, trivial⟩ rfl (dom0 rfl) ?_
      exact ih.2 l0 (wrap64 (x12 + 1)) o9j15 
    · intro l0 x12 o9
      simp only [rate_CheckShifts.l0]
      refine RS.go ?_
      refine RT.br rfl (fun c14 => ?_) (fun c14 => ?_)
      · refine RT.br rfl (fun c1 => ?_) (fun c1 => RT.none)
        refine RT.br rfl (fun c2 => ?_) (fun c2 => RT.none)
        refine RT.call0 rfl (fun _ h => kit_IsMoment.ok ((rdE e_IS l0 x12).1) _ h) (LeL.eq rfl) (fun _ => rfl) (fun r3 => ?_)
        refine RS.go ?_
        refine RT.brBN rfl (fun c12 => ?_) (fun c12 => ?_)
        · refine RT.call0 rfl (fun _ h => kit_IsName.ok ((rdE e_IS l0 x12).2) _ h) (LeL.eq rfl) (fun _ => rfl) (fun r4 => ?_)
          refine RS.go ?_
          refine RT.brBN rfl (fun c11 => ?_) (fun c11 => ?_)
          · refine RT.goto rfl ?_
            refine RS.draw rfl ?_
            refine RD.br rfl (fun c10 => ?_) (fun c10 => ?_)
            · refine RD.brT rfl ?_
              refine RD.brT rfl ?_
              refine RD.brT rfl ?_
              refine RD.brT rfl ?_
              refine RD.brT rfl ?_
              refine RD.br rfl (fun c5 => ?_) (fun c5 => RD.none)
              refine RD.br rfl (fun c6 => ?_) (fun c6 => RD.none)
              refine RD.brT rfl ?_
              refine RD.brT rfl ?_
              refine RD.brT rfl ?_
              refine RD.brT rfl ?_
              refine RD.fin rate_CheckShifts.k0 rate_CheckShifts.k1 rfl rfl (by decide +kernel) ?_
              refine RS.go ?_
              refine RT.br rfl (fun c8 => ?_) (fun c8 => ?_)
              · exact RT.done rfl rfl (Le.refl _) trivial rfl (dom0 rfl)
              · refine RT.brN rfl (fun c7 => ?_) (fun c7 => ?_)
                · refine RT.goto rfl ?_
                  refine RS.weak [(0, sq e_IS l0), (3, .omap 9), (10, sq e_IS l0), (11, .int .i64 (l0.length : Int)), (12, .int .i64 x12)] [(9, mapE KL.strs (false : Bool) AV.bool o9)] ⟨Le.eq (by first | rfl | simp), Le.eq (by first | rfl | simp), Le.eq (by first | rfl | simp), Le.eq (by first | rfl | simp), Le.eq (by first | rfl | simp), trivial⟩ ⟨⟨_, rfl, LeO.refl _⟩, trivial⟩ rfl (dom0 rfl) ?_
                  exact ih.1 l0 x12 o9 
                · refine RT.goto rfl ?_
                  refine RS.obj 9 (mapE KL.strs (false : Bool) AV.bool (mput o9 ((rdE e_IS l0 x12).2) true)) ⟨_, rfl, LeO.putS⟩ ?_
                  refine RS.go ?_
                  refine RT.goto rfl ?_
                  refine RS.weak [(0, sq e_IS l0), (3, .omap 9), (10, sq e_IS l0), (11, .int .i64 (l0.length : Int)), (12, .int .i64 x12)] [(9, mapE KL.strs (false : Bool) AV.bool (mput o9 ((rdE e_IS l0 x12).2) true))] ⟨Le.eq (by first | rfl | simp), Le.eq (by first | rfl | simp), Le.eq (by first | rfl | simp), Le.eq (by first | rfl | simp), Le.eq (by first | rfl | simp), trivial⟩ ⟨⟨_, rfl, LeO.refl _⟩, trivial⟩ rfl (dom0 rfl) ?_
                  exact ih.1 l0 x12 (mput o9 ((rdE e_IS l0 x12).2) true) 
            · refine RD.brF rfl ?_
              refine RD.brF rfl ?_
              refine RD.brF rfl ?_
              refine RD.brF rfl ?_
              refine RD.brF rfl ?_
              refine RD.brF rfl ?_
              refine RD.brF rfl ?_
              refine RD.brF rfl ?_
              refine RD.brF rfl ?_
              refine RD.fin rate_CheckShifts.k2 rate_CheckShifts.k1 rfl rfl (by decide +kernel) ?_
              refine RS.go ?_
              refine RT.brF rfl ?_
              refine RT.brN rfl (fun c9 => ?_) (fun c9 => ?_)
              · refine RT.goto rfl ?_
                refine RS.weak [(0, sq e_IS l0), (3, .omap 9), (10, sq e_IS l0), (11, .int .i64 (l0.length : Int)), (12, .int .i64 x12)] [(9, mapE KL.strs (false : Bool) AV.bool o9)] ⟨Le.eq (by first | rfl | simp), Le.eq (by first | rfl | simp), Le.eq (by first | rfl | simp), Le.eq (by first | rfl | simp), Le.eq (by first | rfl | simp), trivial⟩ ⟨⟨_, rfl, LeO.refl _⟩, trivial⟩ rfl (dom0 rfl) ?_
                exact ih.1 l0 x12 o9 
              · refine RT.goto rfl ?_
                refine RS.obj 9 (mapE KL.strs (false : Bool) AV.bool (mput o9 ((rdE e_IS l0 x12).2) true)) ⟨_, rfl, LeO.putS⟩ ?_
                refine RS.go ?_
                refine RT.goto rfl ?_
                refine RS.weak [(0, sq e_IS l0), (3, .omap 9), (10, sq e_IS l0), (11, .int .i64 (l0.length : Int)), (12, .int .i64 x12)] [(9, mapE KL.strs (false : Bool) AV.bool (mput o9 ((rdE e_IS l0 x12).2) true))] ⟨Le.eq (by first | rfl | simp), Le.eq (by first | rfl | simp), Le.eq (by first | rfl | simp), Le.eq (by first | rfl | simp), Le.eq (by first | rfl | simp), trivial⟩ ⟨⟨_, rfl, LeO.refl _⟩, trivial⟩ rfl (dom0 rfl) ?_
                exact ih.1 l0 x12 (mput o9 ((rdE e_IS l0 x12).2) true) 
          · exact RT.done rfl rfl (Le.refl _) trivial rfl (dom0 rfl)
        · exact RT.done rfl rfl (Le.refl _) trivial rfl (dom0 rfl)
      · refine RT.br rfl (fun c13 => ?_) (fun c13 => ?_)
        · exact RT.done rfl rfl (Le.refl _) trivial rfl (dom0 rfl)
        · exact RT.done rfl rfl (Le.refl _) trivial rfl (dom0 rfl)
theorem rate_CheckShifts.ok (k : Nat) (l0 : List (Int × ByteArray)) (r : Int) (h : rate_CheckShifts.f k l0 = some r) : Ct Tryd.prog B 9 [sq e_IS l0] (ofL []) (.int .i64 r) (ofL []) := by
  refine Ct.of (Y := (fam Tryd.f9 [15] [] [] (fun r : Int => .int .i64 r) (fun r => []))) Tryd.func9 rfl Tryd.call9 rfl rfl ?_ r h
  unfold rate_CheckShifts.f
  refine RS.go ?_
  refine RT.br rfl (fun c15 => ?_) (fun c15 => ?_)
  · exact RT.done rfl rfl (Le.refl _) trivial rfl (dom0 rfl)
  · refine RT.goto rfl ?_
    refine RS.weak [(0, sq e_IS l0), (3, .omap 9), (10, sq e_IS l0), (11, .int .i64 (l0.length : Int)), (12, .int .i64 0)] [(9, mapE KL.strs (false : Bool) AV.bool ([] : List (ByteArray × Bool)))] ⟨Le.eq (by first | rfl | simp), Le.eq (by first | rfl | simp), Le.eq (by first | rfl | simp), Le.eq (by first | rfl | simp), Le.eq (by first | rfl | simp), trivial⟩ ⟨⟨_, rfl, LeO.refl _⟩, trivial⟩ rfl (dom0 rfl) ?_
    exact (rate_CheckShifts.loops k).2 l0 0 ([] : List (ByteArray × Bool)) 
/-! ### rate_who: function 35 -/
mutual
def rate_who.j7 : Nat → List (Int × ByteArray) → Int → Int → ByteArray → Option (ByteArray)
  | 0, _, _, _, _ => Option.none
  | k + 1, l0, a1, x10, x5j7 => rate_who.l0 k l0 a1 x5j7 (wrap64 (x10 + 1))
def rate_who.l0 : Nat → List (Int × ByteArray) → Int → ByteArray → Int → Option (ByteArray)
  | 0, _, _, _, _ => Option.none
  | k + 1, l0, a1, x5, x10 => (if x10 < (l0.length : Int) then (if 0 ≤ x10 then (if x10 < (l0.length : Int) then (if (rdE e_IS l0 x10).1 ≤ a1 then rate_who.j7 k l0 a1 x10 ((rdE e_IS l0 x10).2) else rate_who.j7 k l0 a1 x10 x5) else Option.none) else Option.none) else Option.some x5)
end
def rate_who.f (k : Nat) (l0 : List (Int × ByteArray)) (a1 : Int) : Option (ByteArray) := rate_who.l0 k l0 a1 (⟨#[]⟩ : ByteArray) 0
theorem rate_who.loops : ∀ k, (∀ (l0 : List (Int × ByteArray)) (a1 : Int) (x10 : Int) (x5j7 : ByteArray), RS (fam Tryd.f35 [7] [] [] (fun r : ByteArray => .str r) (fun r => [])) (Func.reg Tryd.f35 7) ⟨ofT [(1, .int .i64 a1), (5, .str x5j7), (8, sq e_IS l0), (9, .int .i64 (l0.length : Int)), (10, .int .i64 x10)], ofL []⟩ (rate_who.j7 k l0 a1 x10 x5j7)) ∧ (∀ (l0 : List (Int × ByteArray)) (a1 : Int) (x5 : ByteArray) (x10 : Int), RS (fam Tryd.f35 [7] [] [] (fun r : ByteArray => .str r) (fun r => [])) (Func.head Tryd.f35 0) ⟨ofT [(1, .int .i64 a1), (5, .str x5), (8, sq e_IS l0), (9, .int .i64 (l0.length : Int)), (10, .int .i64 x10)], ofL []⟩ (rate_who.l0 k l0 a1 x5 x10))
  | 0 => ⟨by intro _ _ _ _; simp only [rate_who.j7]; exact RS.none, by intro _ _ _ _; simp only [rate_who.l0]; exact RS.none⟩
  | k + 1 => by
    have ih := rate_who.loops k
    refine ⟨?_, ?_⟩
    · intro l0 a1 x10 x5j7
      simp only [rate_who.j7]
      refine RS.region ?_
      refine RS.go ?_
      refine RT.goto rfl ?_
      refine RS.weak [(1, .int .i64 a1), (5, .str x5j7), (8, sq e_IS l0), (9, .int .i64 (l0.length : Int)), (10, .int .i64 (wrap64 (x10 + 1)))] [] ⟨Le.eq (by first | rfl | simp), Le.eq (by first | rfl | simp), Le.eq (by first | rfl | simp), Le.eq (by first | rfl | simp), Le.eq (by first | rfl | simp), trivial⟩ trivial rfl (dom0 rfl) ?_
      exact ih.2 l0 a1 x5j7 (wrap64 (x10 + 1)) 
    · intro l0 a1 x5 x10
      simp only [rate_who.l0]
      refine RS.go ?_
      refine RT.br rfl (fun c4 => ?_) (fun c4 => ?_)
      · refine RT.br rfl (fun c1 => ?_) (fun c1 => RT.none)
        refine RT.br rfl (fun c2 => ?_) (fun c2 => RT.none)
        refine RT.br rfl (fun c3 => ?_) (fun c3 => ?_)
        · refine RT.goto rfl ?_
          refine RS.weak [(1, .int .i64 a1), (5, .str ((rdE e_IS l0 x10).2)), (8, sq e_IS l0), (9, .int .i64 (l0.length : Int)), (10, .int .i64 x10)] [] ⟨Le.eq (by first | rfl | simp), Le.eq (by first | rfl | simp), Le.eq (by first | rfl | simp), Le.eq (by first | rfl | simp), Le.eq (by first | rfl | simp), trivial⟩ trivial rfl (dom0 rfl) ?_
          exact ih.1 l0 a1 x10 ((rdE e_IS l0 x10).2) 
        · refine RT.goto rfl ?_
          refine RS.weak [(1, .int .i64 a1), (5, .str x5), (8, sq e_IS l0), (9, .int .i64 (l0.length : Int)), (10, .int .i64 x10)] [] ⟨Le.eq (by first | rfl | simp), Le.eq (by first | rfl | simp), Le.eq (by first | rfl | simp), Le.eq (by first | rfl | simp), Le.eq (by first | rfl | simp), trivial⟩ trivial rfl (dom0 rfl) ?_
          exact ih.1 l0 a1 x10 x5 
      · exact RT.done rfl rfl (Le.refl _) trivial rfl (dom0 rfl)
theorem rate_who.ok (k : Nat) (l0 : List (Int × ByteArray)) (a1 : Int) (r : ByteArray) (h : rate_who.f k l0 a1 = some r) : Ct Tryd.prog B 35 [sq e_IS l0, .int .i64 a1] (ofL []) (.str r) (ofL []) := by
  refine Ct.of (Y := (fam Tryd.f35 [7] [] [] (fun r : ByteArray => .str r) (fun r => []))) Tryd.func35 rfl Tryd.call35 rfl rfl ?_ r h
  unfold rate_who.f
  refine RS.go ?_
  refine RT.goto rfl ?_
  refine RS.weak [(1, .int .i64 a1), (5, .str (⟨#[]⟩ : ByteArray)), (8, sq e_IS l0), (9, .int .i64 (l0.length : Int)), (10, .int .i64 0)] [] ⟨Le.eq (by first | rfl | simp), Le.eq (by first | rfl | simp), Le.eq (by first | rfl | simp), Le.eq (by first | rfl | simp), Le.eq (by first | rfl | simp), trivial⟩ trivial rfl (dom0 rfl) ?_
  exact (rate_who.loops k).2 l0 a1 (⟨#[]⟩ : ByteArray) 0 
/-! ### rate_Who: function 10 -/
def rate_Who.f (k : Nat) (l0 : List (Int × ByteArray)) (a1 : Int) : Option (ByteArray × Bool × Int) := ((rate_CheckShifts.f k l0).bind fun r1 => (if r1 = 0 then ((kit_IsMoment.f a1).bind fun r2 => (if r2 = true then ((rate_who.f k l0 a1).bind fun r3 => Option.some (r3, (!decide (r3 = (⟨#[]⟩ : ByteArray))), 0)) else Option.some ((⟨#[]⟩ : ByteArray), false, 1))) else Option.some ((⟨#[]⟩ : ByteArray), false, r1)))
theorem rate_Who.ok (k : Nat) (l0 : List (Int × ByteArray)) (a1 : Int) (r : ByteArray × Bool × Int) (h : rate_Who.f k l0 a1 = some r) : Ct Tryd.prog B 10 [sq e_IS l0, .int .i64 a1] (ofL []) (.tup [.str r.1, .bool r.2.1, .int .i64 r.2.2]) (ofL []) := by
  refine Ct.of (Y := (fam Tryd.f10 [] [] [] (fun r : ByteArray × Bool × Int => .tup [.str r.1, .bool r.2.1, .int .i64 r.2.2]) (fun r => []))) Tryd.func10 rfl Tryd.call10 rfl rfl ?_ r h
  unfold rate_Who.f
  refine RS.go ?_
  refine RT.call0 rfl (fun _ h => rate_CheckShifts.ok k l0 _ h) (LeL.eq rfl) (fun _ => rfl) (fun r1 => ?_)
  refine RS.go ?_
  refine RT.brN rfl (fun c5 => ?_) (fun c5 => ?_)
  · refine RT.call0 rfl (fun _ h => kit_IsMoment.ok a1 _ h) (LeL.eq rfl) (fun _ => rfl) (fun r2 => ?_)
    refine RS.go ?_
    refine RT.brBN rfl (fun c4 => ?_) (fun c4 => ?_)
    · refine RT.call0 rfl (fun _ h => rate_who.ok k l0 a1 _ h) (LeL.eq rfl) (fun _ => rfl) (fun r3 => ?_)
      refine RS.go ?_
      exact RT.done rfl rfl (Le.tup (LeL.cons (Le.refl _) (LeL.cons (Le.refl _) (LeL.cons (Le.refl _) (LeL.nil))))) trivial rfl (dom0 rfl)
    · exact RT.done rfl rfl (Le.tup (LeL.cons (Le.refl _) (LeL.cons (Le.refl _) (LeL.cons (Le.refl _) (LeL.nil))))) trivial rfl (dom0 rfl)
  · exact RT.done rfl rfl (Le.tup (LeL.cons (Le.refl _) (LeL.cons (Le.refl _) (LeL.cons (Le.refl _) (LeL.nil))))) trivial rfl (dom0 rfl)
/-! ### kit_IsTime: function 40 -/
def kit_IsTime.f (a0_0 : Int) (a0_1 : Int) : Option (Bool) := (if a0_0 ≥ 0 then (if a0_0 < a0_1 then Option.some (decide (a0_1 ≤ 345686400000)) else Option.some false) else Option.some false)
theorem kit_IsTime.ok (a0_0 : Int) (a0_1 : Int) (r : Bool) (h : kit_IsTime.f a0_0 a0_1 = some r) : Ct Tryd.prog B 40 [.agg [.int .i64 a0_0, .int .i64 a0_1]] (ofL []) (.bool r) (ofL []) := by
  refine Ct.of (Y := (fam Tryd.f40 [] [] [] (fun r : Bool => .bool r) (fun r => []))) Tryd.func40 rfl Tryd.call40 rfl rfl ?_ r h
  unfold kit_IsTime.f
  refine RS.go ?_
  refine RT.br rfl (fun c2 => ?_) (fun c2 => ?_)
  · refine RT.brT rfl ?_
    refine RT.brT rfl ?_
    refine RT.brT rfl ?_
    refine RT.brT rfl ?_
    refine RT.brT rfl ?_
    refine RT.br rfl (fun c1 => ?_) (fun c1 => ?_)
    · refine RT.brT rfl ?_
      refine RT.brT rfl ?_
      refine RT.brT rfl ?_
      exact RT.done rfl rfl (Le.refl _) trivial rfl (dom0 rfl)
    · refine RT.brF rfl ?_
      refine RT.brF rfl ?_
      refine RT.brF rfl ?_
      exact RT.done rfl rfl (Le.refl _) trivial rfl (dom0 rfl)
  · refine RT.brF rfl ?_
    refine RT.brF rfl ?_
    refine RT.brF rfl ?_
    refine RT.brF rfl ?_
    refine RT.brF rfl ?_
    refine RT.brF rfl ?_
    refine RT.brF rfl ?_
    refine RT.brF rfl ?_
    refine RT.brF rfl ?_
    exact RT.done rfl rfl (Le.refl _) trivial rfl (dom0 rfl)
/-! ### kit_Has: function 68 -/
def kit_Has.f (a0_0 : Int) (a0_1 : Int) (a1 : Int) : Option (Bool) := (if a0_0 ≤ a1 then Option.some (decide (a1 < a0_1)) else Option.some false)
theorem kit_Has.ok (a0_0 : Int) (a0_1 : Int) (a1 : Int) (r : Bool) (h : kit_Has.f a0_0 a0_1 a1 = some r) : Ct Tryd.prog B 68 [.agg [.int .i64 a0_0, .int .i64 a0_1], .int .i64 a1] (ofL []) (.bool r) (ofL []) := by
  refine Ct.of (Y := (fam Tryd.f68 [] [] [] (fun r : Bool => .bool r) (fun r => []))) Tryd.func68 rfl Tryd.call68 rfl rfl ?_ r h
  unfold kit_Has.f
  refine RS.go ?_
  refine RT.br rfl (fun c1 => ?_) (fun c1 => ?_)
  · refine RT.brT rfl ?_
    refine RT.brT rfl ?_
    refine RT.brT rfl ?_
    refine RT.brT rfl ?_
    exact RT.done rfl rfl (Le.refl _) trivial rfl (dom0 rfl)
  · refine RT.brF rfl ?_
    refine RT.brF rfl ?_
    refine RT.brF rfl ?_
    refine RT.brF rfl ?_
    exact RT.done rfl rfl (Le.refl _) trivial rfl (dom0 rfl)
/-! ### rate_CheckTimes: function 36 -/
def rate_CheckTimes.l0 : Nat → List Int → Int → Int → Int → Option (Int)
  | 0, _, _, _, _ => Option.none
  | k + 1, l0, a1_0, a1_1, x15 => (if x15 < (l0.length : Int) then (if 0 ≤ x15 then (if x15 < (l0.length : Int) then ((kit_Has.f a1_0 a1_1 (rd l0 x15)).bind fun r4 => (if r4 = true then (if x15 > 0 then (if 0 ≤ wrap64 (x15 - 1) then (if wrap64 (x15 - 1) < (l0.length : Int) then (if (rd l0 x15) < (rd l0 (wrap64 (x15 - 1))) then Option.some 7 else rate_CheckTimes.l0 k l0 a1_0 a1_1 (wrap64 (x15 + 1))) else Option.none) else Option.none) else rate_CheckTimes.l0 k l0 a1_0 a1_1 (wrap64 (x15 + 1))) else Option.some 1)) else Option.none) else Option.none) else Option.some 0)
def rate_CheckTimes.f (k : Nat) (l0 : List Int) (a1_0 : Int) (a1_1 : Int) : Option (Int) := ((kit_IsTime.f a1_0 a1_1).bind fun r1 => (if r1 = true then (if (l0.length : Int) > 2000 then Option.some 2 else rate_CheckTimes.l0 k l0 a1_0 a1_1 0) else Option.some 1))
theorem rate_CheckTimes.loops : ∀ k, (∀ (l0 : List Int) (a1_0 : Int) (a1_1 : Int) (x15 : Int), RS (fam Tryd.f36 [] [] [] (fun r : Int => .int .i64 r) (fun r => [])) (Func.head Tryd.f36 0) ⟨ofT [(0, sq eI l0), (3, .ref 3 0 0 0 2), (13, sq eI l0), (14, .int .i64 (l0.length : Int)), (15, .int .i64 x15)], ofL [(3, .box [.int .i64 a1_0, .int .i64 a1_1])]⟩ (rate_CheckTimes.l0 k l0 a1_0 a1_1 x15))
  | 0 => by intro _ _ _ _; simp only [rate_CheckTimes.l0]; exact RS.none
  | k + 1 => by
    have ih := rate_CheckTimes.loops k
    · intro l0 a1_0 a1_1 x15
      simp only [rate_CheckTimes.l0]
      refine RS.go ?_
      refine RT.br rfl (fun c10 => ?_) (fun c10 => ?_)
      · refine RT.br rfl (fun c2 => ?_) (fun c2 => RT.none)
        refine RT.br rfl (fun c3 => ?_) (fun c3 => RT.none)
        refine RT.call0 rfl (fun _ h => kit_Has.ok a1_0 a1_1 (rd l0 x15) _ h) (LeL.eq rfl) (fun _ => rfl) (fun r4 => ?_)
        refine RS.go ?_
        refine RT.brBN rfl (fun c9 => ?_) (fun c9 => ?_)
        · refine RT.br rfl (fun c8 => ?_) (fun c8 => ?_)
          · refine RT.brT rfl ?_
            refine RT.brT rfl ?_
            refine RT.brT rfl ?_
            refine RT.brT rfl ?_
            refine RT.br rfl (fun c5 => ?_) (fun c5 => RT.none)
            refine RT.br rfl (fun c6 => ?_) (fun c6 => RT.none)
            refine RT.brT rfl ?_
            refine RT.brT rfl ?_
            refine RT.brT rfl ?_
            refine RT.br rfl (fun c7 => ?_) (fun c7 => ?_)
            · exact RT.done rfl rfl (Le.refl _) trivial rfl (dom0 rfl)
            · refine RT.goto rfl ?_
              refine RS.weak [(0, sq eI l0), (3, .ref 3 0 0 0 2), (13, sq eI l0), (14, .int .i64 (l0.length : Int)), (15, .int .i64 (wrap64 (x15 + 1)))] [(3, .box [.int .i64 a1_0, .int .i64 a1_1])] ⟨Le.eq (by first | rfl | simp), Le.eq (by first | rfl | simp), Le.eq (by first | rfl | simp), Le.eq (by first | rfl | simp), Le.eq (by first | rfl | simp), trivial⟩ ⟨⟨_, rfl, LeO.refl _⟩, trivial⟩ rfl (dom0 rfl) ?_
              exact ih l0 a1_0 a1_1 (wrap64 (x15 + 1)) 
          · refine RT.brF rfl ?_
            refine RT.brF rfl ?_
            refine RT.brF rfl ?_
            refine RT.brF rfl ?_
            refine RT.brF rfl ?_
            refine RT.brF rfl ?_
            refine RT.brF rfl ?_
            refine RT.brF rfl ?_
            refine RT.goto rfl ?_
            refine RS.weak [(0, sq eI l0), (3, .ref 3 0 0 0 2), (13, sq eI l0), (14, .int .i64 (l0.length : Int)), (15, .int .i64 (wrap64 (x15 + 1)))] [(3, .box [.int .i64 a1_0, .int .i64 a1_1])] ⟨Le.eq (by first | rfl | simp), Le.eq (by first | rfl | simp), Le.eq (by first | rfl | simp), Le.eq (by first | rfl | simp), Le.eq (by first | rfl | simp), trivial⟩ ⟨⟨_, rfl, LeO.refl _⟩, trivial⟩ rfl (dom0 rfl) ?_
            exact ih l0 a1_0 a1_1 (wrap64 (x15 + 1)) 
        · exact RT.done rfl rfl (Le.refl _) trivial rfl (dom0 rfl)
      · exact RT.done rfl rfl (Le.refl _) trivial rfl (dom0 rfl)
theorem rate_CheckTimes.ok (k : Nat) (l0 : List Int) (a1_0 : Int) (a1_1 : Int) (r : Int) (h : rate_CheckTimes.f k l0 a1_0 a1_1 = some r) : Ct Tryd.prog B 36 [sq eI l0, .agg [.int .i64 a1_0, .int .i64 a1_1]] (ofL []) (.int .i64 r) (ofL []) := by
  refine Ct.of (Y := (fam Tryd.f36 [] [] [] (fun r : Int => .int .i64 r) (fun r => []))) Tryd.func36 rfl Tryd.call36 rfl rfl ?_ r h
  unfold rate_CheckTimes.f
  refine RS.go ?_
  refine RT.call0 rfl (fun _ h => kit_IsTime.ok a1_0 a1_1 _ h) (LeL.eq rfl) (fun _ => rfl) (fun r1 => ?_)
  refine RS.go ?_
  refine RT.brBN rfl (fun c12 => ?_) (fun c12 => ?_)
  · refine RT.br rfl (fun c11 => ?_) (fun c11 => ?_)
    · exact RT.done rfl rfl (Le.refl _) trivial rfl (dom0 rfl)
    · refine RT.goto rfl ?_
      refine RS.weak [(0, sq eI l0), (3, .ref 3 0 0 0 2), (13, sq eI l0), (14, .int .i64 (l0.length : Int)), (15, .int .i64 0)] [(3, .box [.int .i64 a1_0, .int .i64 a1_1])] ⟨Le.eq (by first | rfl | simp), Le.eq (by first | rfl | simp), Le.eq (by first | rfl | simp), Le.eq (by first | rfl | simp), Le.eq (by first | rfl | simp), trivial⟩ ⟨⟨_, rfl, LeO.refl _⟩, trivial⟩ rfl (dom0 rfl) ?_
      exact rate_CheckTimes.loops k l0 a1_0 a1_1 0 
  · exact RT.done rfl rfl (Le.refl _) trivial rfl (dom0 rfl)
/-! ### rate_longs: function 37 -/
mutual
def rate_longs.j11 : Nat → List (Int × ByteArray) → Int → Int → Int → List (ByteArray × Int) → Option ((List (ByteArray × Int)))
  | 0, _, _, _, _, _ => Option.none
  | k + 1, l0, a1_0, a1_1, x13, o10j11 => rate_longs.l0 k l0 a1_0 a1_1 (wrap64 (x13 + 1)) o10j11
def rate_longs.j8 : Nat → List (Int × ByteArray) → Int → Int → Int → List (ByteArray × Int) → Int → Option ((List (ByteArray × Int)))
  | 0, _, _, _, _, _, _ => Option.none
  | k + 1, l0, a1_0, a1_1, x13, o10, x8j8 => (if wrap64 ((mn x8j8 a1_1) - (mx ((rdE e_IS l0 x13).1) a1_0)) > 0 then (if (rdE e_IS l0 x13).2 = (⟨#[]⟩ : ByteArray) then rate_longs.j11 k l0 a1_0 a1_1 x13 o10 else rate_longs.j11 k l0 a1_0 a1_1 x13 (mput o10 ((rdE e_IS l0 x13).2) (wrap64 ((mget (0 : Int) o10 ((rdE e_IS l0 x13).2)) + (wrap64 ((mn x8j8 a1_1) - (mx ((rdE e_IS l0 x13).1) a1_0))))))) else rate_longs.j11 k l0 a1_0 a1_1 x13 o10)
def rate_longs.l0 : Nat → List (Int × ByteArray) → Int → Int → Int → List (ByteArray × Int) → Option ((List (ByteArray × Int)))
  | 0, _, _, _, _, _ => Option.none
  | k + 1, l0, a1_0, a1_1, x13, o10 => (if x13 < (l0.length : Int) then (if 0 ≤ x13 then (if x13 < (l0.length : Int) then (if wrap64 (x13 + 1) < (l0.length : Int) then (if 0 ≤ wrap64 (x13 + 1) then (if wrap64 (x13 + 1) < (l0.length : Int) then rate_longs.j8 k l0 a1_0 a1_1 x13 o10 ((rdE e_IS l0 (wrap64 (x13 + 1))).1) else Option.none) else Option.none) else rate_longs.j8 k l0 a1_0 a1_1 x13 o10 345686400000) else Option.none) else Option.none) else Option.some o10)
end
def rate_longs.f (k : Nat) (l0 : List (Int × ByteArray)) (a1_0 : Int) (a1_1 : Int) : Option ((List (ByteArray × Int))) := rate_longs.l0 k l0 a1_0 a1_1 0 ([] : List (ByteArray × Int))
theorem rate_longs.loops : ∀ k, (∀ (l0 : List (Int × ByteArray)) (a1_0 : Int) (a1_1 : Int) (x13 : Int) (o10j11 : List (ByteArray × Int)), RS (fam Tryd.f37 [8, 11] [] [] (fun r : (List (ByteArray × Int)) => .omap 10) (fun r => [(10, mapE KL.strs (0 : Int) (AV.int .i64) r)])) (Func.reg Tryd.f37 11) ⟨ofT [(0, sq e_IS l0), (3, .ref 3 0 0 0 2), (5, .omap 10), (11, sq e_IS l0), (12, .int .i64 (l0.length : Int)), (13, .int .i64 x13)], ofL [(3, .box [.int .i64 a1_0, .int .i64 a1_1]), (10, mapE KL.strs (0 : Int) (AV.int .i64) o10j11)]⟩ (rate_longs.j11 k l0 a1_0 a1_1 x13 o10j11)) ∧ (∀ (l0 : List (Int × ByteArray)) (a1_0 : Int) (a1_1 : Int) (x13 : Int) (o10 : List (ByteArray × Int)) (x8j8 : Int), RS (fam Tryd.f37 [8, 11] [] [] (fun r : (List (ByteArray × Int)) => .omap 10) (fun r => [(10, mapE KL.strs (0 : Int) (AV.int .i64) r)])) (Func.reg Tryd.f37 8) ⟨ofT [(0, sq e_IS l0), (3, .ref 3 0 0 0 2), (5, .omap 10), (7, .ref 7 0 0 0 2), (8, .int .i64 x8j8), (11, sq e_IS l0), (12, .int .i64 (l0.length : Int)), (13, .int .i64 x13)], ofL [(3, .box [.int .i64 a1_0, .int .i64 a1_1]), (7, .box [.int .i64 ((rdE e_IS l0 x13).1), .str ((rdE e_IS l0 x13).2)]), (10, mapE KL.strs (0 : Int) (AV.int .i64) o10)]⟩ (rate_longs.j8 k l0 a1_0 a1_1 x13 o10 x8j8)) ∧ (∀ (l0 : List (Int × ByteArray)) (a1_0 : Int) (a1_1 : Int) (x13 : Int) (o10 : List (ByteArray × Int)), RS (fam Tryd.f37 [8, 11] [] [] (fun r : (List (ByteArray × Int)) => .omap 10) (fun r => [(10, mapE KL.strs (0 : Int) (AV.int .i64) r)])) (Func.head Tryd.f37 0) ⟨ofT [(0, sq e_IS l0), (3, .ref 3 0 0 0 2), (5, .omap 10), (11, sq e_IS l0), (12, .int .i64 (l0.length : Int)), (13, .int .i64 x13)], ofL [(3, .box [.int .i64 a1_0, .int .i64 a1_1]), (10, mapE KL.strs (0 : Int) (AV.int .i64) o10)]⟩ (rate_longs.l0 k l0 a1_0 a1_1 x13 o10))
  | 0 => ⟨by intro _ _ _ _ _; simp only [rate_longs.j11]; exact RS.none, by intro _ _ _ _ _ _; simp only [rate_longs.j8]; exact RS.none, by intro _ _ _ _ _; simp only [rate_longs.l0]; exact RS.none⟩
  | k + 1 => by
    have ih := rate_longs.loops k
    refine ⟨?_, ?_, ?_⟩
    · intro l0 a1_0 a1_1 x13 o10j11
      simp only [rate_longs.j11]
      refine RS.region ?_
      refine RS.go ?_
      refine RT.goto rfl ?_
      refine RS.weak [(0, sq e_IS l0), (3, .ref 3 0 0 0 2), (5, .omap 10), (11, sq e_IS l0), (12, .int .i64 (l0.length : Int)), (13, .int .i64 (wrap64 (x13 + 1)))] [(3, .box [.int .i64 a1_0, .int .i64 a1_1]), (10, mapE KL.strs (0 : Int) (AV.int .i64) o10j11)] ⟨Le.eq (by first | rfl | simp), Le.eq (by first | rfl | simp), Le.eq (by first | rfl | simp), Le.eq (by first | rfl | simp), Le.eq (by first | rfl | simp), Le.eq (by first | rfl | simp), trivial⟩ ⟨⟨_, rfl, LeO.refl _⟩, ⟨_, rfl, LeO.refl _⟩, trivial⟩ rfl (dom0 rfl) ?_
      exact ih.2.2 l0 a1_0 a1_1 (wrap64 (x13 + 1)) o10j11 
    · intro l0 a1_0 a1_1 x13 o10 x8j8
      simp only [rate_longs.j8]
      refine RS.region ?_
      refine RS.go ?_
      refine RT.br rfl (fun c6 => ?_) (fun c6 => ?_)
      · refine RT.brT rfl ?_
        refine RT.brT rfl ?_
        refine RT.brT rfl ?_
        refine RT.brN rfl (fun c5 => ?_) (fun c5 => ?_)
        · refine RT.goto rfl ?_
          refine RS.weak [(0, sq e_IS l0), (3, .ref 3 0 0 0 2), (5, .omap 10), (11, sq e_IS l0), (12, .int .i64 (l0.length : Int)), (13, .int .i64 x13)] [(3, .box [.int .i64 a1_0, .int .i64 a1_1]), (10, mapE KL.strs (0 : Int) (AV.int .i64) o10)] ⟨Le.eq (by first | rfl | simp), Le.eq (by first | rfl | simp), Le.eq (by first | rfl | simp), Le.eq (by first | rfl | simp), Le.eq (by first | rfl | simp), Le.eq (by first | rfl | simp), trivial⟩ ⟨⟨_, rfl, LeO.refl _⟩, ⟨_, rfl, LeO.refl _⟩, trivial⟩ rfl (dom0 rfl) ?_
          exact ih.1 l0 a1_0 a1_1 x13 o10 
        · refine RT.req rfl (congrArg (AV.int .i64) (map_end (l := o10) (d := (0 : Int)))) ?_
          refine RT.goto rfl ?_
          refine RS.obj 10 (mapE KL.strs (0 : Int) (AV.int .i64) (mput o10 ((rdE e_IS l0 x13).2) (wrap64 ((mget (0 : Int) o10 ((rdE e_IS l0 x13).2)) + (wrap64 ((mn x8j8 a1_1) - (mx ((rdE e_IS l0 x13).1) a1_0))))))) ⟨_, rfl, LeO.putS⟩ ?_
          refine RS.go ?_
          refine RT.goto rfl ?_
          refine RS.weak [(0, sq e_IS l0), (3, .ref 3 0 0 0 2), (5, .omap 10), (11, sq e_IS l0), (12, .int .i64 (l0.length : Int)), (13, .int .i64 x13)] [(3, .box [.int .i64 a1_0, .int .i64 a1_1]), (10, mapE KL.strs (0 : Int) (AV.int .i64) (mput o10 ((rdE e_IS l0 x13).2) (wrap64 ((mget (0 : Int) o10 ((rdE e_IS l0 x13).2)) + (wrap64 ((mn x8j8 a1_1) - (mx ((rdE e_IS l0 x13).1) a1_0)))))))] ⟨Le.eq (by first | rfl | simp), Le.eq (by first | rfl | simp), Le.eq (by first | rfl | simp), Le.eq (by first | rfl | simp), Le.eq (by first | rfl | simp), Le.eq (by first | rfl | simp), trivial⟩ ⟨⟨_, rfl, LeO.refl _⟩, ⟨_, rfl, LeO.refl _⟩, trivial⟩ rfl (dom0 rfl) ?_
          exact ih.1 l0 a1_0 a1_1 x13 (mput o10 ((rdE e_IS l0 x13).2) (wrap64 ((mget (0 : Int) o10 ((rdE e_IS l0 x13).2)) + (wrap64 ((mn x8j8 a1_1) - (mx ((rdE e_IS l0 x13).1) a1_0)))))) 
      · refine RT.brF rfl ?_
        refine RT.brF rfl ?_
        refine RT.brF rfl ?_
        refine RT.brF rfl ?_
        refine RT.goto rfl ?_
        refine RS.weak [(0, sq e_IS l0), (3, .ref 3 0 0 0 2), (5, .omap 10), (11, sq e_IS l0), (12, .int .i64 (l0.length : Int)), (13, .int .i64 x13)] [(3, .box [.int .i64 a1_0, .int .i64 a1_1]), (10, mapE KL.strs (0 : Int) (AV.int .i64) o10)] ⟨Le.eq (by first | rfl | simp), Le.eq (by first | rfl | simp), Le.eq (by first | rfl | simp), Le.eq (by first | rfl | simp), Le.eq (by first | rfl | simp), Le.eq (by first | rfl | simp), trivial⟩ ⟨⟨_, rfl, LeO.refl _⟩, ⟨_, rfl, LeO.refl _⟩, trivial⟩ rfl (dom0 rfl) ?_
        exact ih.1 l0 a1_0 a1_1 x13 o10 
    · intro l0 a1_0 a1_1 x13 o10
      simp only [rate_longs.l0]
      refine RS.go ?_
      refine RT.br rfl (fun c8 => ?_) (fun c8 => ?_)
      · refine RT.br rfl (fun c1 => ?_) (fun c1 => RT.none)
        refine RT.br rfl (fun c2 => ?_) (fun c2 => RT.none)
        refine RT.br rfl (fun c7 => ?_) (fun c7 => ?_)
        · refine RT.br rfl (fun c3 => ?_) (fun c3 => RT.none)
          refine RT.br rfl (fun c4 => ?_) (fun c4 => RT.none)
          refine RT.goto rfl ?_
          refine RS.weak [(0, sq e_IS l0), (3, .ref 3 0 0 0 2), (5, .omap 10), (7, .ref 7 0 0 0 2), (8, .int .i64 ((rdE e_IS l0 (wrap64 (x13 + 1))).1)), (11, sq e_IS l0), (12, .int .i64 (l0.length : Int)), (13, .int .i64 x13)] [(3, .box [.int .i64 a1_0, .int .i64 a1_1]), (7, .box [.int .i64 ((rdE e_IS l0 x13).1), .str ((rdE e_IS l0 x13).2)]), (10, mapE KL.strs (0 : Int) (AV.int .i64) o10)] ⟨Le.eq (by first | rfl | simp), Le.eq (by first | rfl | simp), Le.eq (by first | rfl | simp), Le.eq (by first | rfl | simp), Le.eq (by first | rfl | simp), Le.eq (by first | rfl | simp), Le.eq (by first | rfl | simp), Le.eq (by first | rfl | simp), trivial⟩ ⟨⟨_, rfl, LeO.refl _⟩, ⟨_, rfl, LeO.refl _⟩, ⟨_, rfl, LeO.refl _⟩, trivial⟩ rfl (dom0 rfl) ?_
          exact ih.2.1 l0 a1_0 a1_1 x13 o10 ((rdE e_IS l0 (wrap64 (x13 + 1))).1) 
        · refine RT.goto rfl ?_
          refine RS.weak [(0, sq e_IS l0), (3, .ref 3 0 0 0 2), (5, .omap 10), (7, .ref 7 0 0 0 2), (8, .int .i64 345686400000), (11, sq e_IS l0), (12, .int .i64 (l0.length : Int)), (13, .int .i64 x13)] [(3, .box [.int .i64 a1_0, .int .i64 a1_1]), (7, .box [.int .i64 ((rdE e_IS l0 x13).1), .str ((rdE e_IS l0 x13).2)]), (10, mapE KL.strs (0 : Int) (AV.int .i64) o10)] ⟨Le.eq (by first | rfl | simp), Le.eq (by first | rfl | simp), Le.eq (by first | rfl | simp), Le.eq (by first | rfl | simp), Le.eq (by first | rfl | simp), Le.eq (by first | rfl | simp), Le.eq (by first | rfl | simp), Le.eq (by first | rfl | simp), trivial⟩ ⟨⟨_, rfl, LeO.refl _⟩, ⟨_, rfl, LeO.refl _⟩, ⟨_, rfl, LeO.refl _⟩, trivial⟩ rfl (dom0 rfl) ?_
          exact ih.2.1 l0 a1_0 a1_1 x13 o10 345686400000 
      · exact RT.done rfl rfl (Le.refl _) ⟨⟨_, rfl, LeO.refl _⟩, trivial⟩ rfl (dom0 rfl)
theorem rate_longs.ok (k : Nat) (l0 : List (Int × ByteArray)) (a1_0 : Int) (a1_1 : Int) (r : (List (ByteArray × Int))) (h : rate_longs.f k l0 a1_0 a1_1 = some r) : Ct Tryd.prog B 37 [sq e_IS l0, .agg [.int .i64 a1_0, .int .i64 a1_1]] (ofL []) (.omap 10) (ofL [(10, mapE KL.strs (0 : Int) (AV.int .i64) r)]) := by
  refine Ct.of (Y := (fam Tryd.f37 [8, 11] [] [] (fun r : (List (ByteArray × Int)) => .omap 10) (fun r => [(10, mapE KL.strs (0 : Int) (AV.int .i64) r)]))) Tryd.func37 rfl Tryd.call37 rfl rfl ?_ r h
  unfold rate_longs.f
  refine RS.go ?_
  refine RT.goto rfl ?_
  refine RS.weak [(0, sq e_IS l0), (3, .ref 3 0 0 0 2), (5, .omap 10), (11, sq e_IS l0), (12, .int .i64 (l0.length : Int)), (13, .int .i64 0)] [(3, .box [.int .i64 a1_0, .int .i64 a1_1]), (10, mapE KL.strs (0 : Int) (AV.int .i64) ([] : List (ByteArray × Int)))] ⟨Le.eq (by first | rfl | simp), Le.eq (by first | rfl | simp), Le.eq (by first | rfl | simp), Le.eq (by first | rfl | simp), Le.eq (by first | rfl | simp), Le.eq (by first | rfl | simp), trivial⟩ ⟨⟨_, rfl, LeO.refl _⟩, ⟨_, rfl, LeO.refl _⟩, trivial⟩ rfl (dom0 rfl) ?_
  exact (rate_longs.loops k).2.2 l0 a1_0 a1_1 0 ([] : List (ByteArray × Int)) 
def maps_Keys_map_string_int_string_int.f (l0 : List (ByteArray × Int)) : Option Unit := some ()
theorem maps_Keys_map_string_int_string_int.ok (l0 : List (ByteArray × Int)) (r : Unit) (h : maps_Keys_map_string_int_string_int.f l0 = some r) : Ct Tryd.prog B 39 [.omap 100000] (ofL [(100000, mapE KL.strs (0 : Int) (AV.int .i64) l0)]) (.fn 70 [.ref 500000 1 0 0 1]) (ofL [(100000, mapE KL.strs (0 : Int) (AV.int .i64) l0), (500000, .box [.omap 100000])]) :=
  Ct.mapsKeys Tryd.call39 Tryd.maps_Keys_39

def slices_Sorted_string_of_maps_Keys_map_string_int_string_int_1.f (l0 : List (ByteArray × Int)) : Option (List ByteArray) := if (l0.map Prod.fst).Nodup ∧ (∀ s ∈ l0.map Prod.fst, s.size ≤ Go.maxLen) ∧ l0.length ≤ 1000000000000 then some (sortB (l0.map Prod.fst)) else none
theorem slices_Sorted_string_of_maps_Keys_map_string_int_string_int_1.ok (l0 : List (ByteArray × Int)) (r : List ByteArray) (h : slices_Sorted_string_of_maps_Keys_map_string_int_string_int_1.f l0 = some r) : Ct Tryd.prog B 38 [.fn 70 [.ref 200000 1 0 0 1]] (ofL [(200000, .box [.omap 600000]), (600000, mapE KL.strs (0 : Int) (AV.int .i64) l0)]) (sq eS r) (ofL [(200000, .box [.omap 600000]), (600000, mapE KL.strs (0 : Int) (AV.int .i64) l0)]) := by
  unfold slices_Sorted_string_of_maps_Keys_map_string_int_string_int_1.f at h
  split at h
  case isFalse => cases h
  case isTrue c =>
  cases h
  exact Ct.sortedKeys Tryd.call38 Tryd.underlying9 (fun Bm b nn D0 w h1 h2 h3 h4 h5 => Tryd.sorts_keys_38_39 Bm b nn D0 _ w h1 h2 h3 h4 h5) c.1 c.2.1 (by simpa using c.2.2)

/-! ### rate_Counts: function 11 -/
mutual
def rate_Counts.l1 : Nat → List (ByteArray × Int) → List (ByteArray × Int) → List ByteArray → Int → Int → List (ByteArray × Int × Int) → Option ((List (ByteArray × Int × Int)) × Int)
  | 0, _, _, _, _, _, _ => Option.none
  | k + 1, o30, o31, x47b, x48b, x49b, o14b => (if x49b < x48b then (if 0 ≤ x49b then (if x49b < (x47b.length : Int) then (if o14b.length + [((rdE eS x47b x49b), (mget (0 : Int) o31 (rdE eS x47b x49b)), (mget (0 : Int) o30 (rdE eS x47b x49b)))].length ≤ 549755813888 then rate_Counts.l1 k o30 o31 x47b x48b (wrap64 (x49b + 1)) (o14b ++ [((rdE eS x47b x49b), (mget (0 : Int) o31 (rdE eS x47b x49b)), (mget (0 : Int) o30 (rdE eS x47b x49b)))]) else Option.none) else Option.none) else Option.none) else Option.some (o14b, 0))
def rate_Counts.l0 : Nat → List Int → List (Int × ByteArray) → Int → List (ByteArray × Int) → List (ByteArray × Int) → Option ((List (ByteArray × Int × Int)) × Int)
  | 0, _, _, _, _, _ => Option.none
  | k + 1, l0, l2, x34, o30, o31 => (if x34 < (l0.length : Int) then (if 0 ≤ x34 then (if x34 < (l0.length : Int) then ((rate_who.f k l2 (rd l0 x34)).bind fun r6 => rate_Counts.l0 k l0 l2 (wrap64 (x34 + 1)) o30 (mput o31 r6 (wrap64 ((mget (0 : Int) o31 r6) + 1)))) else Option.none) else Option.none) else ((maps_Keys_map_string_int_string_int.f o30).bind fun r7 => ((slices_Sorted_string_of_maps_Keys_map_string_int_string_int_1.f o30).bind fun r8 => rate_Counts.l1 k o30 o31 r8 (r8.length : Int) 0 [])))
end
def rate_Counts.f (k : Nat) (l0 : List Int) (a1_0 : Int) (a1_1 : Int) (l2 : List (Int × ByteArray)) : Option ((List (ByteArray × Int × Int)) × Int) := ((rate_CheckTimes.f k l0 a1_0 a1_1).bind fun r1 => (if r1 = 0 then ((rate_CheckShifts.f k l2).bind fun r2 => (if r2 = 0 then ((rate_longs.f k l2 a1_0 a1_1).bind fun r3 => rate_Counts.l0 k l0 l2 0 r3 ([] : List (ByteArray × Int))) else Option.some ([], r2))) else Option.some ([], r1)))
theorem rate_Counts.loops : ∀ k, (∀ (o30 : List (ByteArray × Int)) (o31 : List (ByteArray × Int)) (x47b : List ByteArray) (x48b : Int) (x49b : Int) (o14b : List (ByteArray × Int × Int)), RS (fam Tryd.f11 [] [] [] (fun r : (List (ByteArray × Int × Int)) × Int => .tup [sq e_SII r.1, .int .i64 r.2]) (fun r => [])) (Func.head Tryd.f11 1) ⟨ofT [(10, .omap 30), (11, .omap 31), (14, .osl 14 e_SII.w 0 o14b.length o14b.length), (47, sq eS x47b), (48, .int .i64 x48b), (49, .int .i64 x49b)], ofL [(14, bufE e_SII o14b), (30, mapE KL.strs (0 : Int) (AV.int .i64) o30), (31, mapE KL.strs (0 : Int) (AV.int .i64) o31)]⟩ (rate_Counts.l1 k o30 o31 x47b x48b x49b o14b)) ∧ (∀ (l0 : List Int) (l2 : List (Int × ByteArray)) (x34 : Int) (o30 : List (ByteArray × Int)) (o31 : List (ByteArray × Int)), RS (fam Tryd.f11 [] [] [] (fun r : (List (ByteArray × Int × Int)) × Int => .tup [sq e_SII r.1, .int .i64 r.2]) (fun r => [])) (Func.head Tryd.f11 0) ⟨ofT [(2, sq e_IS l2), (10, .omap 30), (11, .omap 31), (32, sq eI l0), (33, .int .i64 (l0.length : Int)), (34, .int .i64 x34)], ofL [(30, mapE KL.strs (0 : Int) (AV.int .i64) o30), (31, mapE KL.strs (0 : Int) (AV.int .i64) o31)]⟩ (rate_Counts.l0 k l0 l2 x34 o30 o31))
  | 0 => ⟨by intro _ _ _ _ _ _; simp only [rate_Counts.l1]; exact RS.none, by intro _ _ _ _ _; simp only [rate_Counts.l0]; exact RS.none⟩
  | k + 1 => by
    have ih := rate_Counts.loops k
    refine ⟨?_, ?_⟩
    · intro o30 o31 x47b x48b x49b o14b
      simp only [rate_Counts.l1]
      refine RS.go ?_
      refine RT.br rfl (fun c12 => ?_) (fun c12 => ?_)
      · refine RT.br rfl (fun c9 => ?_) (fun c9 => RT.none)
        refine RT.br rfl (fun c10 => ?_) (fun c10 => RT.none)
        refine RT.req rfl (congrArg (AV.int .i64) (map_end (l := o31) (d := (0 : Int)))) ?_
        refine RT.req rfl (congrArg (AV.int .i64) (map_end (l := o30) (d := (0 : Int)))) ?_
        refine RT.goto rfl ?_
        refine RS.slot 62 (sq e_SII [((rdE eS x47b x49b), (mget (0 : Int) o31 (rdE eS x47b x49b)), (mget (0 : Int) o30 (rdE eS x47b x49b)))]) (Le.lit (E := e_SII) (l := [((rdE eS x47b x49b), (mget (0 : Int) o31 (rdE eS x47b x49b)), (mget (0 : Int) o30 (rdE eS x47b x49b)))]) (cells_of rfl)) ?_
        refine RS.go ?_
        refine RT.req rfl ⟨by first | rfl | simp, by first | exact Nat.le_refl _ | simp⟩ ?_
        refine RT.not rfl (by simp <;> omega) ?_
        refine RT.br rfl (fun c11 => ?_) (fun _ => RT.none)
        refine RT.goto rfl ?_
        refine RS.obj 14 (bufE e_SII (o14b ++ [((rdE eS x47b x49b), (mget (0 : Int) o31 (rdE eS x47b x49b)), (mget (0 : Int) o30 (rdE eS x47b x49b)))])) ⟨_, rfl, LeO.app (l := o14b) (m := [((rdE eS x47b x49b), (mget (0 : Int) o31 (rdE eS x47b x49b)), (mget (0 : Int) o30 (rdE eS x47b x49b)))]) fun _ _ _ _ => rfl⟩ ?_
        refine RS.slot 63 (.osl 14 e_SII.w 0 (o14b ++ [((rdE eS x47b x49b), (mget (0 : Int) o31 (rdE eS x47b x49b)), (mget (0 : Int) o30 (rdE eS x47b x49b)))]).length (o14b ++ [((rdE eS x47b x49b), (mget (0 : Int) o31 (rdE eS x47b x49b)), (mget (0 : Int) o30 (rdE eS x47b x49b)))]).length) (by first | exact Le.oslN rfl (by simp) | exact Le.trans (y := .osl 14 e_SII.w 0 (o14b.length + [((rdE eS x47b x49b), (mget (0 : Int) o31 (rdE eS x47b x49b)), (mget (0 : Int) o30 (rdE eS x47b x49b)))].length) (o14b.length + [((rdE eS x47b x49b), (mget (0 : Int) o31 (rdE eS x47b x49b)), (mget (0 : Int) o30 (rdE eS x47b x49b)))].length)) (Le.refl _) (Le.oslN rfl (by simp))) ?_
        refine RS.go ?_
        refine RT.goto rfl ?_
        refine RS.weak [(10, .omap 30), (11, .omap 31), (14, .osl 14 e_SII.w 0 (o14b ++ [((rdE eS x47b x49b), (mget (0 : Int) o31 (rdE eS x47b x49b)), (mget (0 : Int) o30 (rdE eS x47b x49b)))]).length (o14b ++ [((rdE eS x47b x49b), (mget (0 : Int) o31 (rdE eS x47b x49b)), (mget (0 : Int) o30 (rdE eS x47b x49b)))]).length), (47, sq eS x47b), (48, .int .i64 x48b), (49, .int .i64 (wrap64 (x49b + 1)))] [(14, bufE e_SII (o14b ++ [((rdE eS x47b x49b), (mget (0 : Int) o31 (rdE eS x47b x49b)), (mget (0 : Int) o30 (rdE eS x47b x49b)))])), (30, mapE KL.strs (0 : Int) (AV.int .i64) o30), (31, mapE KL.strs (0 : Int) (AV.int .i64) o31)] ⟨Le.eq (by first | rfl | simp), Le.eq (by first | rfl | simp), (by first | exact Le.oslN rfl (by first | rfl | simp) | exact Le.refl _ | exact Le.eq (by first | rfl | simp)), Le.eq (by first | rfl | simp), Le.eq (by first | rfl | simp), Le.eq (by first | rfl | simp), trivial⟩ ⟨⟨_, rfl, LeO.refl _⟩, ⟨_, rfl, LeO.refl _⟩, ⟨_, rfl, LeO.refl _⟩, trivial⟩ rfl (dom0 rfl) ?_
        exact ih.1 o30 o31 x47b x48b (wrap64 (x49b + 1)) (o14b ++ [((rdE eS x47b x49b), (mget (0 : Int) o31 (rdE eS x47b x49b)), (mget (0 : Int) o30 (rdE eS x47b x49b)))]) 
      · refine RT.freeze 14 _ _ _ [(6, sq e_SII o14b), (7, .int .i64 0)] [] rfl rfl ⟨.inr ⟨_, rfl, by first | exact Nat.le_refl _ | simp, rfl⟩, .inl (Le.refl _), trivial⟩ trivial rfl (dom0 rfl) ?_
        exact RT.done rfl rfl (Le.tup (LeL.cons (Le.refl _) (LeL.cons (Le.refl _) (LeL.nil)))) trivial rfl (dom0 rfl)
    · intro l0 l2 x34 o30 o31
      simp only [rate_Counts.l0]
      refine RS.go ?_
      refine RT.br rfl (fun c13 => ?_) (fun c13 => ?_)
      · refine RT.br rfl (fun c4 => ?_) (fun c4 => RT.none)
        refine RT.br rfl (fun c5 => ?_) (fun c5 => RT.none)
        refine RT.call0 rfl (fun _ h => rate_who.ok k l2 (rd l0 x34) _ h) (LeL.eq rfl) (fun _ => rfl) (fun r6 => ?_)
        refine RS.go ?_
        refine RT.req rfl (congrArg (AV.int .i64) (map_end (l := o31) (d := (0 : Int)))) ?_
        refine RT.goto rfl ?_
        refine RS.obj 31 (mapE KL.strs (0 : Int) (AV.int .i64) (mput o31 r6 (wrap64 ((mget (0 : Int) o31 r6) + 1)))) ⟨_, rfl, LeO.putS⟩ ?_
        refine RS.go ?_
        refine RT.goto rfl ?_
        refine RS.weak [(2, sq e_IS l2), (10, .omap 30), (11, .omap 31), (32, sq eI l0), (33, .int .i64 (l0.length : Int)), (34, .int .i64 (wrap64 (x34 + 1)))] [(30, mapE KL.strs (0 : Int) (AV.int .i64) o30), (31, mapE KL.strs (0 : Int) (AV.int .i64) (mput o31 r6 (wrap64 ((mget (0 : Int) o31 r6) + 1))))] ⟨Le.eq (by first | rfl | simp), Le.eq (by first | rfl | simp), Le.eq (by first | rfl | simp), Le.eq (by first | rfl | simp), Le.eq (by first | rfl | simp), Le.eq (by first | rfl | simp), trivial⟩ ⟨⟨_, rfl, LeO.refl _⟩, ⟨_, rfl, LeO.refl _⟩, trivial⟩ rfl (dom0 rfl) ?_
        exact ih.2 l0 l2 (wrap64 (x34 + 1)) o30 (mput o31 r6 (wrap64 ((mget (0 : Int) o31 r6) + 1))) 
      · refine RT.call rfl (fun _ h => maps_Keys_map_string_int_string_int.ok o30 _ h) (fun i => bif Nat.beq i 500000 then 46 else bif Nat.beq i 100000 then 30 else i) (LeL.eq rfl) ⟨⟨_, rfl, LeO.refl _⟩, trivial⟩ (fun _ => rfl) (fun r7 => ?_)
        refine RS.go ?_
        refine RT.call rfl (fun _ h => slices_Sorted_string_of_maps_Keys_map_string_int_string_int_1.ok o30 _ h) (fun i => bif Nat.beq i 600000 then 30 else bif Nat.beq i 200000 then 46 else i) (LeL.eq rfl) ⟨⟨_, rfl, LeO.refl _⟩, ⟨⟨_, rfl, LeO.refl _⟩, trivial⟩⟩ (fun _ => rfl) (fun r8 => ?_)
        refine RS.go ?_
        refine RT.goto rfl ?_
        refine RS.ghost 14 14 e_SII.w (rep e_SII []) rfl rfl ?_
        refine RS.weak [(10, .omap 30), (11, .omap 31), (14, .osl 14 e_SII.w 0 ([] : List (ByteArray × Int × Int)).length ([] : List (ByteArray × Int × Int)).length), (47, sq eS r8), (48, .int .i64 (r8.length : Int)), (49, .int .i64 0)] [(14, bufE e_SII ([] : List (ByteArray × Int × Int))), (30, mapE KL.strs (0 : Int) (AV.int .i64) o30), (31, mapE KL.strs (0 : Int) (AV.int .i64) o31)] ⟨Le.eq (by first | rfl | simp), Le.eq (by first | rfl | simp), (by first | exact Le.oslN rfl (by first | rfl | simp) | exact Le.refl _ | exact Le.eq (by first | rfl | simp)), Le.eq (by first | rfl | simp), Le.eq (by first | rfl | simp), Le.eq (by first | rfl | simp), trivial⟩ ⟨⟨_, rfl, LeO.refl _⟩, ⟨_, rfl, LeO.refl _⟩, ⟨_, rfl, LeO.refl _⟩, trivial⟩ rfl (dom0 rfl) ?_
        exact ih.1 o30 o31 r8 (r8.length : Int) 0 [] 
theorem rate_Counts.ok (k : Nat) (l0 : List Int) (a1_0 : Int) (a1_1 : Int) (l2 : List (Int × ByteArray)) (r : (List (ByteArray × Int × Int)) × Int) (h : rate_Counts.f k l0 a1_0 a1_1 l2 = some r) : Ct Tryd.prog B 11 [sq eI l0, .agg [.int .i64 a1_0, .int .i64 a1_1], sq e_IS l2] (ofL []) (.tup [sq e_SII r.1, .int .i64 r.2]) (ofL []) := by
  refine Ct.of (Y := (fam Tryd.f11 [] [] [] (fun r : (List (ByteArray × Int × Int)) × Int => .tup [sq e_SII r.1, .int .i64 r.2]) (fun r => []))) Tryd.func11 rfl Tryd.call11 rfl rfl ?_ r h
  unfold rate_Counts.f
  refine RS.go ?_
  refine RT.call0 rfl (fun _ h => rate_CheckTimes.ok k l0 a1_0 a1_1 _ h) (LeL.eq rfl) (fun _ => rfl) (fun r1 => ?_)
  refine RS.go ?_
  refine RT.brN rfl (fun c15 => ?_) (fun c15 => ?_)
  · refine RT.call0 rfl (fun _ h => rate_CheckShifts.ok k l2 _ h) (LeL.eq rfl) (fun _ => rfl) (fun r2 => ?_)
    refine RS.go ?_
    refine RT.brN rfl (fun c14 => ?_) (fun c14 => ?_)
    · refine RT.call rfl (fun _ h => rate_longs.ok k l2 a1_0 a1_1 _ h) (fun i => bif Nat.beq i 10 then 30 else i) (LeL.eq rfl) trivial (fun _ => rfl) (fun r3 => ?_)
      refine RS.go ?_
      refine RT.goto rfl ?_
      refine RS.weak [(2, sq e_IS l2), (10, .omap 30), (11, .omap 31), (32, sq eI l0), (33, .int .i64 (l0.length : Int)), (34, .int .i64 0)] [(30, mapE KL.strs (0 : Int) (AV.int .i64) r3), (31, mapE KL.strs (0 : Int) (AV.int .i64) ([] : List (ByteArray × Int)))] ⟨Le.eq (by first | rfl | simp), Le.eq (by first | rfl | simp), Le.eq (by first | rfl | simp), Le.eq (by first | rfl | simp), Le.eq (by first | rfl | simp), Le.eq (by first | rfl | simp), trivial⟩ ⟨⟨_, rfl, LeO.refl _⟩, ⟨_, rfl, LeO.refl _⟩, trivial⟩ rfl (dom0 rfl) ?_
      exact (rate_Counts.loops k).2 l0 l2 0 r3 ([] : List (ByteArray × Int)) 
    · exact RT.done rfl rfl (Le.tup (LeL.cons (Le.nil _ _) (LeL.cons (Le.refl _) (LeL.nil)))) trivial rfl (dom0 rfl)
  · exact RT.done rfl rfl (Le.tup (LeL.cons (Le.nil _ _) (LeL.cons (Le.refl _) (LeL.nil)))) trivial rfl (dom0 rfl)
/-! ### rate_Fairest: function 12 -/
mutual
def rate_Fairest.l1 : Nat → Int → List (ByteArray × Int) → Int → List Nat → Nat → Option (Int × Int)
  | 0, _, _, _, _, _ => Option.none
  | k + 1, x8, o25, x12b, o43b, q43b => (altO o43b.length (fun i8 => rate_Fairest.l1 k x8 o25 (wrap64 (x12b + (mx 0 (wrap64 (((List.map Prod.snd o25).getD (o43b.getD i8 0) (0 : Int)) - (wrap64 (Int.tdiv x8 ((List.map Prod.fst o25).length : Int)))))))) (o43b.eraseIdx i8) (o43b.getD i8 0)) (Option.some (x12b, 0)))
def rate_Fairest.l0 : Nat → Int → List (ByteArray × Int) → List Nat → Nat → Option (Int × Int)
  | 0, _, _, _, _ => Option.none
  | k + 1, x8, o25, o30, q30 => (altO o30.length (fun i4 => rate_Fairest.l0 k (wrap64 (x8 + ((List.map Prod.snd o25).getD (o30.getD i4 0) (0 : Int)))) o25 (o30.eraseIdx i4) (o30.getD i4 0)) (if ((List.map Prod.fst o25).length : Int) = 0 then Option.none else rate_Fairest.l1 k x8 o25 0 (List.range (List.map Prod.fst o25).length) ((List.map Prod.fst o25).length)))
end
def rate_Fairest.f (k : Nat) (l0 : List (Int × ByteArray)) (a1_0 : Int) (a1_1 : Int) : Option (Int × Int) := ((rate_CheckShifts.f k l0).bind fun r1 => (if r1 = 0 then ((kit_IsTime.f a1_0 a1_1).bind fun r2 => (if r2 = true then ((rate_longs.f k l0 a1_0 a1_1).bind fun r3 => (if ((List.map Prod.fst r3).length : Int) = 0 then Option.some (0, 0) else rate_Fairest.l0 k 0 r3 (List.range (List.map Prod.fst r3).length) ((List.map Prod.fst r3).length))) else Option.some (0, 1))) else Option.some (0, r1)))
theorem rate_Fairest.loops : ∀ k, (∀ (x8 : Int) (o25 : List (ByteArray × Int)) (x12b : Int) (o43b : List Nat) (q43b : Nat), RS (fam Tryd.f12 [] [] [] (fun r : Int × Int => .tup [.int .i64 r.1, .int .i64 r.2]) (fun r => [])) (Func.head Tryd.f12 1) ⟨ofT [(11, .int .i64 (wrap64 (Int.tdiv x8 ((List.map Prod.fst o25).length : Int)))), (12, .int .i64 x12b), (43, .ref 43 0 0 0 0)], ofL [(25, mapE KL.strs (0 : Int) (AV.int .i64) o25), (43, .mit 25 ((List.map Prod.fst o25).length) o43b q43b)]⟩ (rate_Fairest.l1 k x8 o25 x12b o43b q43b)) ∧ (∀ (x8 : Int) (o25 : List (ByteArray × Int)) (o30 : List Nat) (q30 : Nat), RS (fam Tryd.f12 [] [] [] (fun r : Int × Int => .tup [.int .i64 r.1, .int .i64 r.2]) (fun r => [])) (Func.head Tryd.f12 0) ⟨ofT [(7, .omap 25), (8, .int .i64 x8), (30, .ref 30 0 0 0 0)], ofL [(25, mapE KL.strs (0 : Int) (AV.int .i64) o25), (30, .mit 25 ((List.map Prod.fst o25).length) o30 q30)]⟩ (rate_Fairest.l0 k x8 o25 o30 q30))
  | 0 => ⟨by intro _ _ _ _ _; simp only [rate_Fairest.l1]; exact RS.none, by intro _ _ _ _; simp only [rate_Fairest.l0]; exact RS.none⟩
  | k + 1 => by
    have ih := rate_Fairest.loops k
    refine ⟨?_, ?_⟩
    · intro x8 o25 x12b o43b q43b
      simp only [rate_Fairest.l1]
      refine RS.go ?_
      refine RT.req rfl rfl ?_
      refine RT.alt rfl (fun c11 => ?_) (fun i8 c9 c10 => ?_)
      · refine RT.goto rfl ?_
        refine RS.go ?_
        refine RT.brF rfl ?_
        exact RT.done rfl rfl (Le.tup (LeL.cons (Le.refl _) (LeL.cons (Le.refl _) (LeL.nil)))) trivial rfl (dom0 rfl)
      · refine RT.goto rfl ?_
        refine RS.go ?_
        refine RT.brT rfl ?_
        refine RT.req rfl ⟨c10, rfl⟩ ?_
        refine RT.goto rfl ?_
        refine RS.go ?_
        refine RT.goto rfl ?_
        refine RS.weak [(11, .int .i64 (wrap64 (Int.tdiv x8 ((List.map Prod.fst o25).length : Int)))), (12, .int .i64 (wrap64 (x12b + (mx 0 (wrap64 (((List.map Prod.snd o25).getD (o43b.getD i8 0) (0 : Int)) - (wrap64 (Int.tdiv x8 ((List.map Prod.fst o25).length : Int))))))))), (43, .ref 43 0 0 0 0)] [(25, mapE KL.strs (0 : Int) (AV.int .i64) o25), (43, .mit 25 ((List.map Prod.fst o25).length) (o43b.eraseIdx i8) (o43b.getD i8 0))] ⟨Le.eq (by first | rfl | simp), Le.eq (by first | rfl | simp), Le.eq (by first | rfl | simp), trivial⟩ ⟨⟨_, rfl, LeO.refl _⟩, ⟨_, rfl, LeO.refl _⟩, trivial⟩ rfl (dom0 rfl) ?_
        exact ih.1 x8 o25 (wrap64 (x12b + (mx 0 (wrap64 (((List.map Prod.snd o25).getD (o43b.getD i8 0) (0 : Int)) - (wrap64 (Int.tdiv x8 ((List.map Prod.fst o25).length : Int)))))))) (o43b.eraseIdx i8) (o43b.getD i8 0) 
    · intro x8 o25 o30 q30
      simp only [rate_Fairest.l0]
      refine RS.go ?_
      refine RT.req rfl rfl ?_
      refine RT.alt rfl (fun c7 => ?_) (fun i4 c5 c6 => ?_)
      · refine RT.goto rfl ?_
        refine RS.go ?_
        refine RT.brF rfl ?_
        refine RT.br rfl (fun _ => RT.none) (fun c12 => ?_)
        refine RT.goto rfl ?_
        refine RS.go ?_
        refine RT.goto rfl ?_
        refine RS.weak [(11, .int .i64 (wrap64 (Int.tdiv x8 ((List.map Prod.fst o25).length : Int)))), (12, .int .i64 0), (43, .ref 43 0 0 0 0)] [(25, mapE KL.strs (0 : Int) (AV.int .i64) o25), (43, .mit 25 ((List.map Prod.fst o25).length) (List.range (List.map Prod.fst o25).length) ((List.map Prod.fst o25).length))] ⟨Le.eq (by first | rfl | simp), Le.eq (by first | rfl | simp), Le.eq (by first | rfl | simp), trivial⟩ ⟨⟨_, rfl, LeO.refl _⟩, ⟨_, rfl, LeO.refl _⟩, trivial⟩ rfl (dom0 rfl) ?_
        exact ih.1 x8 o25 0 (List.range (List.map Prod.fst o25).length) ((List.map Prod.fst o25).length) 
      · refine RT.goto rfl ?_
        refine RS.go ?_
        refine RT.brT rfl ?_
        refine RT.req rfl ⟨c6, rfl⟩ ?_
        refine RT.goto rfl ?_
        refine RS.go ?_
        refine RT.goto rfl ?_
        refine RS.weak [(7, .omap 25), (8, .int .i64 (wrap64 (x8 + ((List.map Prod.snd o25).getD (o30.getD i4 0) (0 : Int))))), (30, .ref 30 0 0 0 0)] [(25, mapE KL.strs (0 : Int) (AV.int .i64) o25), (30, .mit 25 ((List.map Prod.fst o25).length) (o30.eraseIdx i4) (o30.getD i4 0))] ⟨Le.eq (by first | rfl | simp), Le.eq (by first | rfl | simp), Le.eq (by first | rfl | simp), trivial⟩ ⟨⟨_, rfl, LeO.refl _⟩, ⟨_, rfl, LeO.refl _⟩, trivial⟩ rfl (dom0 rfl) ?_
        exact ih.2 (wrap64 (x8 + ((List.map Prod.snd o25).getD (o30.getD i4 0) (0 : Int)))) o25 (o30.eraseIdx i4) (o30.getD i4 0) 
theorem rate_Fairest.ok (k : Nat) (l0 : List (Int × ByteArray)) (a1_0 : Int) (a1_1 : Int) (r : Int × Int) (h : rate_Fairest.f k l0 a1_0 a1_1 = some r) : Ct Tryd.prog B 12 [sq e_IS l0, .agg [.int .i64 a1_0, .int .i64 a1_1]] (ofL []) (.tup [.int .i64 r.1, .int .i64 r.2]) (ofL []) := by
  refine Ct.of (Y := (fam Tryd.f12 [] [] [] (fun r : Int × Int => .tup [.int .i64 r.1, .int .i64 r.2]) (fun r => []))) Tryd.func12 rfl Tryd.call12 rfl rfl ?_ r h
  unfold rate_Fairest.f
  refine RS.go ?_
  refine RT.call0 rfl (fun _ h => rate_CheckShifts.ok k l0 _ h) (LeL.eq rfl) (fun _ => rfl) (fun r1 => ?_)
  refine RS.go ?_
  refine RT.brN rfl (fun c15 => ?_) (fun c15 => ?_)
  · refine RT.call0 rfl (fun _ h => kit_IsTime.ok a1_0 a1_1 _ h) (LeL.eq rfl) (fun _ => rfl) (fun r2 => ?_)
    refine RS.go ?_
    refine RT.brBN rfl (fun c14 => ?_) (fun c14 => ?_)
    · refine RT.call rfl (fun _ h => rate_longs.ok k l0 a1_0 a1_1 _ h) (fun i => bif Nat.beq i 10 then 25 else i) (LeL.eq rfl) trivial (fun _ => rfl) (fun r3 => ?_)
      refine RS.go ?_
      refine RT.br rfl (fun c13 => ?_) (fun c13 => ?_)
      · exact RT.done rfl rfl (Le.tup (LeL.cons (Le.refl _) (LeL.cons (Le.refl _) (LeL.nil)))) trivial rfl (dom0 rfl)
      · refine RT.goto rfl ?_
        refine RS.go ?_
        refine RT.goto rfl ?_
        refine RS.weak [(7, .omap 25), (8, .int .i64 0), (30, .ref 30 0 0 0 0)] [(25, mapE KL.strs (0 : Int) (AV.int .i64) r3), (30, .mit 25 ((List.map Prod.fst r3).length) (List.range (List.map Prod.fst r3).length) ((List.map Prod.fst r3).length))] ⟨Le.eq (by first | rfl | simp), Le.eq (by first | rfl | simp), Le.eq (by first | rfl | simp), trivial⟩ ⟨⟨_, rfl, LeO.refl _⟩, ⟨_, rfl, LeO.refl _⟩, trivial⟩ rfl (dom0 rfl) ?_
        exact (rate_Fairest.loops k).2 0 r3 (List.range (List.map Prod.fst r3).length) ((List.map Prod.fst r3).length) 
    · exact RT.done rfl rfl (Le.tup (LeL.cons (Le.refl _) (LeL.cons (Le.refl _) (LeL.nil)))) trivial rfl (dom0 rfl)
  · exact RT.done rfl rfl (Le.tup (LeL.cons (Le.refl _) (LeL.cons (Le.refl _) (LeL.nil)))) trivial rfl (dom0 rfl)
/-! ### cmp_Or_api_Errno: function 13 -/
def cmp_Or_api_Errno.l0 : Nat → List Int → Int → Option (Int)
  | 0, _, _ => Option.none
  | k + 1, l0, x8 => (if x8 < (l0.length : Int) then (if 0 ≤ x8 then (if x8 < (l0.length : Int) then (if (rd l0 x8) = 0 then cmp_Or_api_Errno.l0 k l0 (wrap64 (x8 + 1)) else Option.some (rd l0 x8)) else Option.none) else Option.none) else Option.some 0)
def cmp_Or_api_Errno.f (k : Nat) (l0 : List Int) : Option (Int) := cmp_Or_api_Errno.l0 k l0 0
theorem cmp_Or_api_Errno.loops : ∀ k, (∀ (l0 : List Int) (x8 : Int), RS (fam Tryd.f13 [] [] [] (fun r : Int => .int .i64 r) (fun r => [])) (Func.head Tryd.f13 0) ⟨ofT [(3, .int .i64 0), (6, sq eI l0), (7, .int .i64 (l0.length : Int)), (8, .int .i64 x8)], ofL []⟩ (cmp_Or_api_Errno.l0 k l0 x8))
  | 0 => by intro _ _; simp only [cmp_Or_api_Errno.l0]; exact RS.none
  | k + 1 => by
    have ih := cmp_Or_api_Errno.loops k
    · intro l0 x8
      simp only [cmp_Or_api_Errno.l0]
      refine RS.go ?_
      refine RT.br rfl (fun c4 => ?_) (fun c4 => ?_)
      · refine RT.br rfl (fun c1 => ?_) (fun c1 => RT.none)
        refine RT.br rfl (fun c2 => ?_) (fun c2 => RT.none)
        refine RT.brN rfl (fun c3 => ?_) (fun c3 => ?_)
        · refine RT.goto rfl ?_
          refine RS.weak [(3, .int .i64 0), (6, sq eI l0), (7, .int .i64 (l0.length : Int)), (8, .int .i64 (wrap64 (x8 + 1)))] [] ⟨Le.eq (by first | rfl | simp), Le.eq (by first | rfl | simp), Le.eq (by first | rfl | simp), Le.eq (by first | rfl | simp), trivial⟩ trivial rfl (dom0 rfl) ?_
          exact ih l0 (wrap64 (x8 + 1)) 
        · exact RT.done rfl rfl (Le.refl _) trivial rfl (dom0 rfl)
      · exact RT.done rfl rfl (Le.refl _) trivial rfl (dom0 rfl)
theorem cmp_Or_api_Errno.ok (k : Nat) (l0 : List Int) (r : Int) (h : cmp_Or_api_Errno.f k l0 = some r) : Ct Tryd.prog B 13 [sq eI l0] (ofL []) (.int .i64 r) (ofL []) := by
  refine Ct.of (Y := (fam Tryd.f13 [] [] [] (fun r : Int => .int .i64 r) (fun r => []))) Tryd.func13 rfl Tryd.call13 rfl rfl ?_ r h
  unfold cmp_Or_api_Errno.f
  refine RS.go ?_
  refine RT.goto rfl ?_
  refine RS.weak [(3, .int .i64 0), (6, sq eI l0), (7, .int .i64 (l0.length : Int)), (8, .int .i64 0)] [] ⟨Le.eq (by first | rfl | simp), Le.eq (by first | rfl | simp), Le.eq (by first | rfl | simp), Le.eq (by first | rfl | simp), trivial⟩ trivial rfl (dom0 rfl) ?_
  exact cmp_Or_api_Errno.loops k l0 0 
/-! ### pileref1_timeFault: function 42 -/
def pileref1_timeFault.f (a0_0 : Int) (a0_1 : Int) : Option (Int) := (if a0_0 < 0 then Option.some 1 else (if a0_0 ≥ a0_1 then Option.some 1 else (if a0_1 > 345686400000 then Option.some 1 else Option.some 0)))
theorem pileref1_timeFault.ok (a0_0 : Int) (a0_1 : Int) (r : Int) (h : pileref1_timeFault.f a0_0 a0_1 = some r) : Ct Tryd.prog B 42 [.agg [.int .i64 a0_0, .int .i64 a0_1]] (ofL []) (.int .i64 r) (ofL []) := by
  refine Ct.of (Y := (fam Tryd.f42 [] [] [] (fun r : Int => .int .i64 r) (fun r => []))) Tryd.func42 rfl Tryd.call42 rfl rfl ?_ r h
  unfold pileref1_timeFault.f
  refine RS.go ?_
  refine RT.br rfl (fun c3 => ?_) (fun c3 => ?_)
  · refine RT.brT rfl ?_
    refine RT.brT rfl ?_
    refine RT.brT rfl ?_
    refine RT.brT rfl ?_
    refine RT.brT rfl ?_
    refine RT.brT rfl ?_
    refine RT.brT rfl ?_
    refine RT.brT rfl ?_
    refine RT.brT rfl ?_
    refine RT.brT rfl ?_
    exact RT.done rfl rfl (Le.refl _) trivial rfl (dom0 rfl)
  · refine RT.brF rfl ?_
    refine RT.brF rfl ?_
    refine RT.brF rfl ?_
    refine RT.brF rfl ?_
    refine RT.brF rfl ?_
    refine RT.br rfl (fun c2 => ?_) (fun c2 => ?_)
    · refine RT.brT rfl ?_
      refine RT.brT rfl ?_
      refine RT.brT rfl ?_
      refine RT.brT rfl ?_
      exact RT.done rfl rfl (Le.refl _) trivial rfl (dom0 rfl)
    · refine RT.brF rfl ?_
      refine RT.brF rfl ?_
      refine RT.brF rfl ?_
      refine RT.br rfl (fun c1 => ?_) (fun c1 => ?_)
      · exact RT.done rfl rfl (Le.refl _) trivial rfl (dom0 rfl)
      · exact RT.done rfl rfl (Le.refl _) trivial rfl (dom0 rfl)
/-! ### pileref1_inside: function 43 -/
def pileref1_inside.f (a0_0 : Int) (a0_1 : Int) (a1 : Int) : Option (Bool) := (if a0_0 ≤ a1 then Option.some (decide (a1 < a0_1)) else Option.some false)
theorem pileref1_inside.ok (a0_0 : Int) (a0_1 : Int) (a1 : Int) (r : Bool) (h : pileref1_inside.f a0_0 a0_1 a1 = some r) : Ct Tryd.prog B 43 [.agg [.int .i64 a0_0, .int .i64 a0_1], .int .i64 a1] (ofL []) (.bool r) (ofL []) := by
  refine Ct.of (Y := (fam Tryd.f43 [] [] [] (fun r : Bool => .bool r) (fun r => []))) Tryd.func43 rfl Tryd.call43 rfl rfl ?_ r h
  unfold pileref1_inside.f
  refine RS.go ?_
  refine RT.br rfl (fun c1 => ?_) (fun c1 => ?_)
  · refine RT.brT rfl ?_
    refine RT.brT rfl ?_
    refine RT.brT rfl ?_
    refine RT.brT rfl ?_
    exact RT.done rfl rfl (Le.refl _) trivial rfl (dom0 rfl)
  · refine RT.brF rfl ?_
    refine RT.brF rfl ?_
    refine RT.brF rfl ?_
    refine RT.brF rfl ?_
    exact RT.done rfl rfl (Le.refl _) trivial rfl (dom0 rfl)
/-! ### pileref1_TimesFault: function 15 -/
def pileref1_TimesFault.l0 : Nat → List Int → Int → Int → Int → Option (Int)
  | 0, _, _, _, _ => Option.none
  | k + 1, l0, a1_0, a1_1, x18 => (if x18 < (l0.length : Int) then (if 0 ≤ x18 then (if x18 < (l0.length : Int) then ((pileref1_inside.f a1_0 a1_1 (rd l0 x18)).bind fun r4 => (if r4 = true then (if x18 > 0 then (if 0 ≤ wrap64 (x18 - 1) then (if wrap64 (x18 - 1) < (l0.length : Int) then (if (rd l0 x18) < (rd l0 (wrap64 (x18 - 1))) then Option.some 7 else pileref1_TimesFault.l0 k l0 a1_0 a1_1 (wrap64 (x18 + 1))) else Option.none) else Option.none) else pileref1_TimesFault.l0 k l0 a1_0 a1_1 (wrap64 (x18 + 1))) else Option.some 1)) else Option.none) else Option.none) else Option.some 0)
def pileref1_TimesFault.f (k : Nat) (l0 : List Int) (a1_0 : Int) (a1_1 : Int) : Option (Int) := ((pileref1_timeFault.f a1_0 a1_1).bind fun r1 => (if r1 = 0 then (if (l0.length : Int) > 2000 then Option.some 2 else pileref1_TimesFault.l0 k l0 a1_0 a1_1 0) else Option.some r1))
theorem pileref1_TimesFault.loops : ∀ k, (∀ (l0 : List Int) (a1_0 : Int) (a1_1 : Int) (x18 : Int), RS (fam Tryd.f15 [] [] [] (fun r : Int => .int .i64 r) (fun r => [])) (Func.head Tryd.f15 0) ⟨ofT [(0, sq eI l0), (3, .ref 3 0 0 0 2), (16, sq eI l0), (17, .int .i64 (l0.length : Int)), (18, .int .i64 x18)], ofL [(3, .box [.int .i64 a1_0, .int .i64 a1_1])]⟩ (pileref1_TimesFault.l0 k l0 a1_0 a1_1 x18))
  | 0 => by intro _ _ _ _; simp only [pileref1_TimesFault.l0]; exact RS.none
  | k + 1 => by
    have ih := pileref1_TimesFault.loops k
    · intro l0 a1_0 a1_1 x18
      simp only [pileref1_TimesFault.l0]
      refine RS.go ?_
      refine RT.br rfl (fun c10 => ?_) (fun c10 => ?_)
      · refine RT.br rfl (fun c2 => ?_) (fun c2 => RT.none)
        refine RT.br rfl (fun c3 => ?_) (fun c3 => RT.none)
        refine RT.call0 rfl (fun _ h => pileref1_inside.ok a1_0 a1_1 (rd l0 x18) _ h) (LeL.eq rfl) (fun _ => rfl) (fun r4 => ?_)
        refine RS.go ?_
        refine RT.brBN rfl (fun c9 => ?_) (fun c9 => ?_)
        · refine RT.br rfl (fun c8 => ?_) (fun c8 => ?_)
          · refine RT.brT rfl ?_
            refine RT.brT rfl ?_
            refine RT.brT rfl ?_
            refine RT.brT rfl ?_
            refine RT.br rfl (fun c5 => ?_) (fun c5 => RT.none)
            refine RT.br rfl (fun c6 => ?_) (fun c6 => RT.none)
            refine RT.brT rfl ?_
            refine RT.brT rfl ?_
            refine RT.brT rfl ?_
            refine RT.br rfl (fun c7 => ?_) (fun c7 => ?_)
            · exact RT.done rfl rfl (Le.refl _) trivial rfl (dom0 rfl)
            · refine RT.goto rfl ?_
              refine RS.weak [(0, sq eI l0), (3, .ref 3 0 0 0 2), (16, sq eI l0), (17, .int .i64 (l0.length : Int)), (18, .int .i64 (wrap64 (x18 + 1)))] [(3, .box [.int .i64 a1_0, .int .i64 a1_1])] ⟨Le.eq (by first | rfl | simp), Le.eq (by first | rfl | simp), Le.eq (by first | rfl | simp), Le.eq (by first | rfl | simp), Le.eq (by first | rfl | simp), trivial⟩ ⟨⟨_, rfl, LeO.refl _⟩, trivial⟩ rfl (dom0 rfl) ?_
              exact ih l0 a1_0 a1_1 (wrap64 (x18 + 1)) 
          · refine RT.brF rfl ?_
            refine RT.brF rfl ?_
            refine RT.brF rfl ?_
            refine RT.brF rfl ?_
            refine RT.brF rfl ?_
            refine RT.brF rfl ?_
            refine RT.brF rfl ?_
            refine RT.brF rfl ?_
            refine RT.goto rfl ?_
            refine RS.weak [(0, sq eI l0), (3, .ref 3 0 0 0 2), (16, sq eI l0), (17, .int .i64 (l0.length : Int)), (18, .int .i64 (wrap64 (x18 + 1)))] [(3, .box [.int .i64 a1_0, .int .i64 a1_1])] ⟨Le.eq (by first | rfl | simp), Le.eq (by first | rfl | simp), Le.eq (by first | rfl | simp), Le.eq (by first | rfl | simp), Le.eq (by first | rfl | simp), trivial⟩ ⟨⟨_, rfl, LeO.refl _⟩, trivial⟩ rfl (dom0 rfl) ?_
            exact ih l0 a1_0 a1_1 (wrap64 (x18 + 1)) 
        · exact RT.done rfl rfl (Le.refl _) trivial rfl (dom0 rfl)
      · exact RT.done rfl rfl (Le.refl _) trivial rfl (dom0 rfl)
theorem pileref1_TimesFault.ok (k : Nat) (l0 : List Int) (a1_0 : Int) (a1_1 : Int) (r : Int) (h : pileref1_TimesFault.f k l0 a1_0 a1_1 = some r) : Ct Tryd.prog B 15 [sq eI l0, .agg [.int .i64 a1_0, .int .i64 a1_1]] (ofL []) (.int .i64 r) (ofL []) := by
  refine Ct.of (Y := (fam Tryd.f15 [] [] [] (fun r : Int => .int .i64 r) (fun r => []))) Tryd.func15 rfl Tryd.call15 rfl rfl ?_ r h
  unfold pileref1_TimesFault.f
  refine RS.go ?_
  refine RT.call0 rfl (fun _ h => pileref1_timeFault.ok a1_0 a1_1 _ h) (LeL.eq rfl) (fun _ => rfl) (fun r1 => ?_)
  refine RS.go ?_
  refine RT.brN rfl (fun c12 => ?_) (fun c12 => ?_)
  · refine RT.br rfl (fun c11 => ?_) (fun c11 => ?_)
    · exact RT.done rfl rfl (Le.refl _) trivial rfl (dom0 rfl)
    · refine RT.goto rfl ?_
      refine RS.weak [(0, sq eI l0), (3, .ref 3 0 0 0 2), (16, sq eI l0), (17, .int .i64 (l0.length : Int)), (18, .int .i64 0)] [(3, .box [.int .i64 a1_0, .int .i64 a1_1])] ⟨Le.eq (by first | rfl | simp), Le.eq (by first | rfl | simp), Le.eq (by first | rfl | simp), Le.eq (by first | rfl | simp), Le.eq (by first | rfl | simp), trivial⟩ ⟨⟨_, rfl, LeO.refl _⟩, trivial⟩ rfl (dom0 rfl) ?_
      exact pileref1_TimesFault.loops k l0 a1_0 a1_1 0 
  · exact RT.done rfl rfl (Le.refl _) trivial rfl (dom0 rfl)
/-! ### pileref1_WhoAt: function 16 -/
mutual
def pileref1_WhoAt.j7 : Nat → List (Int × ByteArray) → Int → Int → ByteArray → Option (ByteArray)
  | 0, _, _, _, _ => Option.none
  | k + 1, l0, a1, x10, x5j7 => pileref1_WhoAt.l0 k l0 a1 x5j7 (wrap64 (x10 + 1))
def pileref1_WhoAt.l0 : Nat → List (Int × ByteArray) → Int → ByteArray → Int → Option (ByteArray)
  | 0, _, _, _, _ => Option.none
  | k + 1, l0, a1, x5, x10 => (if x10 < (l0.length : Int) then (if 0 ≤ x10 then (if x10 < (l0.length : Int) then (if (rdE e_IS l0 x10).1 ≤ a1 then pileref1_WhoAt.j7 k l0 a1 x10 ((rdE e_IS l0 x10).2) else pileref1_WhoAt.j7 k l0 a1 x10 x5) else Option.none) else Option.none) else Option.some x5)
end
def pileref1_WhoAt.f (k : Nat) (l0 : List (Int × ByteArray)) (a1 : Int) : Option (ByteArray) := pileref1_WhoAt.l0 k l0 a1 (⟨#[]⟩ : ByteArray) 0
theorem pileref1_WhoAt.loops : ∀ k, (∀ (l0 : List (Int × ByteArray)) (a1 : Int) (x10 : Int) (x5j7 : ByteArray), RS (fam Tryd.f16 [7] [] [] (fun r : ByteArray => .str r) (fun r => [])) (Func.reg Tryd.f16 7) ⟨ofT [(1, .int .i64 a1), (5, .str x5j7), (8, sq e_IS l0), (9, .int .i64 (l0.length : Int)), (10, .int .i64 x10)], ofL []⟩ (pileref1_WhoAt.j7 k l0 a1 x10 x5j7)) ∧ (∀ (l0 : List (Int × ByteArray)) (a1 : Int) (x5 : ByteArray) (x10 : Int), RS (fam Tryd.f16 [7] [] [] (fun r : ByteArray => .str r) (fun r => [])) (Func.head Tryd.f16 0) ⟨ofT [(1, .int .i64 a1), (5, .str x5), (8, sq e_IS l0), (9, .int .i64 (l0.length : Int)), (10, .int .i64 x10)], ofL []⟩ (pileref1_WhoAt.l0 k l0 a1 x5 x10))
  | 0 => ⟨by intro _ _ _ _; simp only [pileref1_WhoAt.j7]; exact RS.none, by intro _ _ _ _; simp only [pileref1_WhoAt.l0]; exact RS.none⟩
  | k + 1 => by
    have ih := pileref1_WhoAt.loops k
    refine ⟨?_, ?_⟩
    · intro l0 a1 x10 x5j7
      simp only [pileref1_WhoAt.j7]
      refine RS.region ?_
      refine RS.go ?_
      refine RT.goto rfl ?_
      refine RS.weak [(1, .int .i64 a1), (5, .str x5j7), (8, sq e_IS l0), (9, .int .i64 (l0.length : Int)), (10, .int .i64 (wrap64 (x10 + 1)))] [] ⟨Le.eq (by first | rfl | simp), Le.eq (by first | rfl | simp), Le.eq (by first | rfl | simp), Le.eq (by first | rfl | simp), Le.eq (by first | rfl | simp), trivial⟩ trivial rfl (dom0 rfl) ?_
      exact ih.2 l0 a1 x5j7 (wrap64 (x10 + 1)) 
    · intro l0 a1 x5 x10
      simp only [pileref1_WhoAt.l0]
      refine RS.go ?_
      refine RT.br rfl (fun c4 => ?_) (fun c4 => ?_)
      · refine RT.br rfl (fun c1 => ?_) (fun c1 => RT.none)
        refine RT.br rfl (fun c2 => ?_) (fun c2 => RT.none)
        refine RT.br rfl (fun c3 => ?_) (fun c3 => ?_)
        · refine RT.goto rfl ?_
          refine RS.weak [(1, .int .i64 a1), (5, .str ((rdE e_IS l0 x10).2)), (8, sq e_IS l0), (9, .int .i64 (l0.length : Int)), (10, .int .i64 x10)] [] ⟨Le.eq (by first | rfl | simp), Le.eq (by first | rfl | simp), Le.eq (by first | rfl | simp), Le.eq (by first | rfl | simp), Le.eq (by first | rfl | simp), trivial⟩ trivial rfl (dom0 rfl) ?_
          exact ih.1 l0 a1 x10 ((rdE e_IS l0 x10).2) 
        · refine RT.goto rfl ?_
          refine RS.weak [(1, .int .i64 a1), (5, .str x5), (8, sq e_IS l0), (9, .int .i64 (l0.length : Int)), (10, .int .i64 x10)] [] ⟨Le.eq (by first | rfl | simp), Le.eq (by first | rfl | simp), Le.eq (by first | rfl | simp), Le.eq (by first | rfl | simp), Le.eq (by first | rfl | simp), trivial⟩ trivial rfl (dom0 rfl) ?_
          exact ih.1 l0 a1 x10 x5 
      · exact RT.done rfl rfl (Le.refl _) trivial rfl (dom0 rfl)
theorem pileref1_WhoAt.ok (k : Nat) (l0 : List (Int × ByteArray)) (a1 : Int) (r : ByteArray) (h : pileref1_WhoAt.f k l0 a1 = some r) : Ct Tryd.prog B 16 [sq e_IS l0, .int .i64 a1] (ofL []) (.str r) (ofL []) := by
  refine Ct.of (Y := (fam Tryd.f16 [7] [] [] (fun r : ByteArray => .str r) (fun r => []))) Tryd.func16 rfl Tryd.call16 rfl rfl ?_ r h
  unfold pileref1_WhoAt.f
  refine RS.go ?_
  refine RT.goto rfl ?_
  refine RS.weak [(1, .int .i64 a1), (5, .str (⟨#[]⟩ : ByteArray)), (8, sq e_IS l0), (9, .int .i64 (l0.length : Int)), (10, .int .i64 0)] [] ⟨Le.eq (by first | rfl | simp), Le.eq (by first | rfl | simp), Le.eq (by first | rfl | simp), Le.eq (by first | rfl | simp), Le.eq (by first | rfl | simp), trivial⟩ trivial rfl (dom0 rfl) ?_
  exact (pileref1_WhoAt.loops k).2 l0 a1 (⟨#[]⟩ : ByteArray) 0 
/-! ### pileref1_truth: function 44 -/
def pileref1_truth.f (a0 : Bool) : Option (Int) := (if a0 = true then Option.some 1 else Option.some 0)
theorem pileref1_truth.ok (a0 : Bool) (r : Int) (h : pileref1_truth.f a0 = some r) : Ct Tryd.prog B 44 [.bool a0] (ofL []) (.int .i64 r) (ofL []) := by
  refine Ct.of (Y := (fam Tryd.f44 [] [] [] (fun r : Int => .int .i64 r) (fun r => []))) Tryd.func44 rfl Tryd.call44 rfl rfl ?_ r h
  unfold pileref1_truth.f
  refine RS.go ?_
  refine RT.brB rfl (fun c1 => ?_) (fun c1 => ?_)
  · exact RT.done rfl rfl (Le.refl _) trivial rfl (dom0 rfl)
  · exact RT.done rfl rfl (Le.refl _) trivial rfl (dom0 rfl)
/-! ### pileref1_CountsOf: function 17 -/
def pileref1_CountsOf.k0 : List DK := [⟨[95, 94], [16], [], [16]⟩, ⟨[16], [16], [95], []⟩, ⟨[87, 93], [], [94], []⟩, ⟨[92], [], [93], []⟩, ⟨[90, 91], [], [92], []⟩, ⟨[15], [], [91], []⟩, ⟨[88, 89], [], [90], []⟩, ⟨[18], [], [89], []⟩, ⟨[2], [], [88], []⟩, ⟨[86], [16], [87], []⟩, ⟨[16], [16], [86], []⟩]
def pileref1_CountsOf.k1 : List Nat := [0, 1, 0, 0, 12, 0, 60, 124, 255, 511, 1023]
mutual
def pileref1_CountsOf.j13 : Nat → List Int → Int → Int → List (Int × ByteArray) → Int → List ByteArray → List (ByteArray × Int) → Option ((List (ByteArray × Int × Int)))
  | 0, _, _, _, _, _, _, _ => Option.none
  | k + 1, l0, a1_0, a1_1, l2, x22, o7j13, o19j13 => pileref1_CountsOf.l0 k l0 a1_0 a1_1 l2 (wrap64 (x22 + 1)) o7j13 o19j13
def pileref1_CountsOf.j9 : Nat → List Int → Int → Int → List (Int × ByteArray) → Int → List ByteArray → List (ByteArray × Int) → Int → Option ((List (ByteArray × Int × Int)))
  | 0, _, _, _, _, _, _, _, _ => Option.none
  | k + 1, l0, a1_0, a1_1, l2, x22, o7, o19, x11j9 => (if wrap64 (x11j9 - (mx ((rdE e_IS l2 x22).1) a1_0)) > 0 then (if (rdE e_IS l2 x22).2 = (⟨#[]⟩ : ByteArray) then pileref1_CountsOf.j13 k l0 a1_0 a1_1 l2 x22 o7 o19 else (if o7.length + 1 ≤ 549755813888 then pileref1_CountsOf.j13 k l0 a1_0 a1_1 l2 x22 (o7 ++ [(rdE e_IS l2 x22).2]) (mput o19 ((rdE e_IS l2 x22).2) (wrap64 ((mget (0 : Int) o19 ((rdE e_IS l2 x22).2)) + (wrap64 (x11j9 - (mx ((rdE e_IS l2 x22).1) a1_0)))))) else Option.none)) else pileref1_CountsOf.j13 k l0 a1_0 a1_1 l2 x22 o7 o19)
def pileref1_CountsOf.l2 : Nat → List Int → List (Int × ByteArray) → List (ByteArray × Int) → List ByteArray → Int → Int → List (ByteArray × Int × Int) → Int → Int → Option ((List (ByteArray × Int × Int)))
  | 0, _, _, _, _, _, _, _, _, _ => Option.none
  | k + 1, l0, l2, o19, x69b, x70b, x71b, o13b, x82c, o16_1c => (if x82c < (l0.length : Int) then (if 0 ≤ x82c then (if x82c < (l0.length : Int) then ((pileref1_WhoAt.f k l2 (rd l0 x82c)).bind fun r14 => ((pileref1_truth.f (decide (r14 = (rdE eS x69b x71b)))).bind fun r15 => pileref1_CountsOf.l2 k l0 l2 o19 x69b x70b x71b o13b (wrap64 (x82c + 1)) (wrap64 (o16_1c + r15)))) else Option.none) else Option.none) else (if o13b.length + [((rdE eS x69b x71b), o16_1c, (mget (0 : Int) o19 (rdE eS x69b x71b)))].length ≤ 549755813888 then pileref1_CountsOf.l1 k l0 l2 o19 x69b x70b (wrap64 (x71b + 1)) (o13b ++ [((rdE eS x69b x71b), o16_1c, (mget (0 : Int) o19 (rdE eS x69b x71b)))]) else Option.none))
def pileref1_CountsOf.l1 : Nat → List Int → List (Int × ByteArray) → List (ByteArray × Int) → List ByteArray → Int → Int → List (ByteArray × Int × Int) → Option ((List (ByteArray × Int × Int)))
  | 0, _, _, _, _, _, _, _ => Option.none
  | k + 1, l0, l2, o19, x69b, x70b, x71b, o13b => (if x71b < x70b then (if 0 ≤ x71b then (if x71b < (x69b.length : Int) then pileref1_CountsOf.l2 k l0 l2 o19 x69b x70b x71b o13b 0 0 else Option.none) else Option.none) else Option.some o13b)
def pileref1_CountsOf.l0 : Nat → List Int → Int → Int → List (Int × ByteArray) → Int → List ByteArray → List (ByteArray × Int) → Option ((List (ByteArray × Int × Int)))
  | 0, _, _, _, _, _, _, _ => Option.none
  | k + 1, l0, a1_0, a1_1, l2, x22, o7, o19 => (if x22 < (l2.length : Int) then (if 0 ≤ x22 then (if x22 < (l2.length : Int) then (if wrap64 (x22 + 1) < (l2.length : Int) then (if 0 ≤ wrap64 (x22 + 1) then (if wrap64 (x22 + 1) < (l2.length : Int) then pileref1_CountsOf.j9 k l0 a1_0 a1_1 l2 x22 o7 o19 (mn a1_1 ((rdE e_IS l2 (wrap64 (x22 + 1))).1)) else Option.none) else Option.none) else pileref1_CountsOf.j9 k l0 a1_0 a1_1 l2 x22 o7 o19 a1_1) else Option.none) else Option.none) else ((pileref1_once.f o7).bind fun r9 => pileref1_CountsOf.l1 k l0 l2 o19 r9 (r9.length : Int) 0 []))
end
def pileref1_CountsOf.f (k : Nat) (l0 : List Int) (a1_0 : Int) (a1_1 : Int) (l2 : List (Int × ByteArray)) : Option ((List (ByteArray × Int × Int))) := pileref1_CountsOf.l0 k l0 a1_0 a1_1 l2 0 [] ([] : List (ByteArray × Int))
theorem pileref1_CountsOf.loops : ∀ k, (∀ (l0 : List Int) (a1_0 : Int) (a1_1 : Int) (l2 : List (Int × ByteArray)) (x22 : Int) (o7j13 : List ByteArray) (o19j13 : List (ByteArray × Int)), RS (fam Tryd.f17 [9, 13, 15] [] [] (fun r : (List (ByteArray × Int × Int)) => sq e_SII r) (fun r => [])) (Func.reg Tryd.f17 13) ⟨ofT [(0, sq eI l0), (2, sq e_IS l2), (4, .ref 4 0 0 0 2), (7, .osl 7 eS.w 0 o7j13.length o7j13.length), (8, .omap 19), (20, sq e_IS l2), (21, .int .i64 (l2.length : Int)), (22, .int .i64 x22)], ofL [(4, .box [.int .i64 a1_0, .int .i64 a1_1]), (7, bufE eS o7j13), (19, mapE KL.strs (0 : Int) (AV.int .i64) o19j13)]⟩ (pileref1_CountsOf.j13 k l0 a1_0 a1_1 l2 x22 o7j13 o19j13)) ∧ (∀ (l0 : List Int) (a1_0 : Int) (a1_1 : Int) (l2 : List (Int × ByteArray)) (x22 : Int) (o7 : List ByteArray) (o19 : List (ByteArray × Int)) (x11j9 : Int), RS (fam Tryd.f17 [9, 13, 15] [] [] (fun r : (List (ByteArray × Int × Int)) => sq e_SII r) (fun r => [])) (Func.reg Tryd.f17 9) ⟨ofT [(0, sq eI l0), (2, sq e_IS l2), (4, .ref 4 0 0 0 2), (7, .osl 7 eS.w 0 o7.length o7.length), (8, .omap 19), (10, .ref 10 0 0 0 2), (11, .int .i64 x11j9), (20, sq e_IS l2), (21, .int .i64 (l2.length : Int)), (22, .int .i64 x22)], ofL [(4, .box [.int .i64 a1_0, .int .i64 a1_1]), (7, bufE eS o7), (10, .box [.int .i64 ((rdE e_IS l2 x22).1), .str ((rdE e_IS l2 x22).2)]), (19, mapE KL.strs (0 : Int) (AV.int .i64) o19)]⟩ (pileref1_CountsOf.j9 k l0 a1_0 a1_1 l2 x22 o7 o19 x11j9)) ∧ (∀ (l0 : List Int) (l2 : List (Int × ByteArray)) (o19 : List (ByteArray × Int)) (x69b : List ByteArray) (x70b : Int) (x71b : Int) (o13b : List (ByteArray × Int × Int)) (x82c : Int) (o16_1c : Int), RS (fam Tryd.f17 [9, 13, 15] [] [] (fun r : (List (ByteArray × Int × Int)) => sq e_SII r) (fun r => [])) (Func.head Tryd.f17 2) ⟨ofT [(0, sq eI l0), (2, sq e_IS l2), (8, .omap 19), (13, .osl 13 e_SII.w 0 o13b.length o13b.length), (15, .str (rdE eS x69b x71b)), (16, .ref 16 0 0 0 3), (69, sq eS x69b), (70, .int .i64 x70b), (71, .int .i64 x71b), (80, sq eI l0), (81, .int .i64 (l0.length : Int)), (82, .int .i64 x82c)], ofL [(13, bufE e_SII o13b), (16, .box [.str (rdE eS x69b x71b), .int .i64 o16_1c, .int .i64 (mget (0 : Int) o19 (rdE eS x69b x71b))]), (19, mapE KL.strs (0 : Int) (AV.int .i64) o19)]⟩ (pileref1_CountsOf.l2 k l0 l2 o19 x69b x70b x71b o13b x82c o16_1c)) ∧ (∀ (l0 : List Int) (l2 : List (Int × ByteArray)) (o19 : List (ByteArray × Int)) (x69b : List ByteArray) (x70b : Int) (x71b : Int) (o13b : List (ByteArray × Int × Int)), RS (fam Tryd.f17 [9, 13, 15] [] [] (fun r : (List (ByteArray × Int × Int)) => sq e_SII r) (fun r => [])) (Func.head Tryd.f17 1) ⟨ofT [(0, sq eI l0), (2, sq e_IS l2), (8, .omap 19), (13, .osl 13 e_SII.w 0 o13b.length o13b.length), (69, sq eS x69b), (70, .int .i64 x70b), (71, .int .i64 x71b)], ofL [(13, bufE e_SII o13b), (19, mapE KL.strs (0 : Int) (AV.int .i64) o19)]⟩ (pileref1_CountsOf.l1 k l0 l2 o19 x69b x70b x71b o13b)) ∧ (∀ (l0 : List Int) (a1_0 : Int) (a1_1 : Int) (l2 : List (Int × ByteArray)) (x22 : Int) (o7 : List ByteArray) (o19 : List (ByteArray × Int)), RS (fam Tryd.f17 [9, 13, 15] [] [] (fun r : (List (ByteArray × Int × Int)) => sq e_SII r) (fun r => [])) (Func.head Tryd.f17 0) ⟨ofT [(0, sq eI l0), (2, sq e_IS l2), (4, .ref 4 0 0 0 2), (7, .osl 7 eS.w 0 o7.length o7.length), (8, .omap 19), (20, sq e_IS l2), (21, .int .i64 (l2.length : Int)), (22, .int .i64 x22)], ofL [(4, .box [.int .i64 a1_0, .int .i64 a1_1]), (7, bufE eS o7), (19, mapE KL.strs (0 : Int) (AV.int .i64) o19)]⟩ (pileref1_CountsOf.l0 k l0 a1_0 a1_1 l2 x22 o7 o19))
  | 0 => ⟨by intro _ _ _ _ _ _ _; simp only [pileref1_CountsOf.j13]; exact RS.none, by intro _ _ _ _ _ _ _ _; simp only [pileref1_CountsOf.j9]; exact RS.none, by intro _ _ _ _ _ _ _ _ _; simp only [pileref1_CountsOf.l2]; exact RS.none, by intro _ _ _ _ _ _ _; simp only [pileref1_CountsOf.l1]; exact RS.none, by intro _ _ _ _ _ _ _; simp only [pileref1_CountsOf.l0]; exact RS.none⟩
  | k + 1 => by
    have ih := pileref1_CountsOf.loops k
    refine ⟨?_, ?_, ?_, ?_, ?_⟩
    · intro l0 a1_0 a1_1 l2 x22 o7j13 o19j13
      simp only [pileref1_CountsOf.j13]
      refine RS.region ?_
      refine RS.go ?_
      refine RT.goto rfl ?_
      refine RS.weak [(0, sq eI l0), (2, sq e_IS l2), (4, .ref 4 0 0 0 2), (7, .osl 7 eS.w 0 o7j13.length o7j13.length), (8, .omap 19), (20, sq e_IS l2), (21, .int .i64 (l2.length : Int)), (22, .int .i64 (wrap64 (x22 + 1)))] [(4, .box [.int .i64 a1_0, .int .i64 a1_1]), (7, bufE eS o7j13), (19, mapE KL.strs (0 : Int) (AV.int .i64) o19j13)] ⟨Le.eq (by first | rfl | simp), Le.eq (by first | rfl | simp), Le.eq (by first | rfl | simp), (by first | exact Le.oslN rfl (by first | rfl | simp) | exact Le.refl _ | exact Le.eq (by first | rfl | simp)), Le.eq (by first | rfl | simp), Le.eq (by first | rfl | simp), Le.eq (by first | rfl | simp), Le.eq (by first | rfl | simp), trivial⟩ ⟨⟨_, rfl, LeO.refl _⟩, ⟨_, rfl, LeO.refl _⟩, ⟨_, rfl, LeO.refl _⟩, trivial⟩ rfl (dom0 rfl) ?_
      exact ih.2.2.2.2 l0 a1_0 a1_1 l2 (wrap64 (x22 + 1)) o7j13 o19j13 
    · intro l0 a1_0 a1_1 l2 x22 o7 o19 x11j9
      simp only [pileref1_CountsOf.j9]
      refine RS.region ?_
      refine RS.go ?_
      refine RT.br rfl (fun c7 => ?_) (fun c7 => ?_)
      · refine RT.brT rfl ?_
        refine RT.brT rfl ?_
        refine RT.brT rfl ?_
        refine RT.brN rfl (fun c6 => ?_) (fun c6 => ?_)
        · refine RT.goto rfl ?_
          refine RS.weak [(0, sq eI l0), (2, sq e_IS l2), (4, .ref 4 0 0 0 2), (7, .osl 7 eS.w 0 o7.length o7.length), (8, .omap 19), (20, sq e_IS l2), (21, .int .i64 (l2.length : Int)), (22, .int .i64 x22)] [(4, .box [.int .i64 a1_0, .int .i64 a1_1]), (7, bufE eS o7), (19, mapE KL.strs (0 : Int) (AV.int .i64) o19)] ⟨Le.eq (by first | rfl | simp), Le.eq (by first | rfl | simp), Le.eq (by first | rfl | simp), (by first | exact Le.oslN rfl (by first | rfl | simp) | exact Le.refl _ | exact Le.eq (by first | rfl | simp)), Le.eq (by first | rfl | simp), Le.eq (by first | rfl | simp), Le.eq (by first | rfl | simp), Le.eq (by first | rfl | simp), trivial⟩ ⟨⟨_, rfl, LeO.refl _⟩, ⟨_, rfl, LeO.refl _⟩, ⟨_, rfl, LeO.refl _⟩, trivial⟩ rfl (dom0 rfl) ?_
          exact ih.1 l0 a1_0 a1_1 l2 x22 o7 o19 
        · refine RT.goto rfl ?_
          refine RS.slot 59 (sq eS [(rdE e_IS l2 x22).2]) (Le.lit (E := eS) (l := [(rdE e_IS l2 x22).2]) (cells_of rfl)) ?_
          refine RS.go ?_
          refine RT.req rfl ⟨by first | rfl | simp, by first | exact Nat.le_refl _ | simp⟩ ?_
          refine RT.not rfl (by simp <;> omega) ?_
          refine RT.br rfl (fun c5 => ?_) (fun _ => RT.none)
          refine RT.goto rfl ?_
          refine RS.obj 7 (bufE eS (o7 ++ [(rdE e_IS l2 x22).2])) ⟨_, rfl, LeO.app (l := o7) (m := [(rdE e_IS l2 x22).2]) fun _ _ _ _ => rfl⟩ ?_
          refine RS.slot 60 (.osl 7 eS.w 0 (o7 ++ [(rdE e_IS l2 x22).2]).length (o7 ++ [(rdE e_IS l2 x22).2]).length) (by first | exact Le.oslN rfl (by simp) | exact Le.trans (y := .osl 7 eS.w 0 (o7.length + 1) (o7.length + 1)) (Le.refl _) (Le.oslN rfl (by simp))) ?_
          refine RS.go ?_
          refine RT.req rfl (congrArg (AV.int .i64) (map_end (l := o19) (d := (0 : Int)))) ?_
          refine RT.goto rfl ?_
          refine RS.obj 19 (mapE KL.strs (0 : Int) (AV.int .i64) (mput o19 ((rdE e_IS l2 x22).2) (wrap64 ((mget (0 : Int) o19 ((rdE e_IS l2 x22).2)) + (wrap64 (x11j9 - (mx ((rdE e_IS l2 x22).1) a1_0))))))) ⟨_, rfl, LeO.putS⟩ ?_
          refine RS.go ?_
          refine RT.goto rfl ?_
          refine RS.weak [(0, sq eI l0), (2, sq e_IS l2), (4, .ref 4 0 0 0 2), (7, .osl 7 eS.w 0 (o7 ++ [(rdE e_IS l2 x22).2]).length (o7 ++ [(rdE e_IS l2 x22).2]).length), (8, .omap 19), (20, sq e_IS l2), (21, .int .i64 (l2.length : Int)), (22, .int .i64 x22)] [(4, .box [.int .i64 a1_0, .int .i64 a1_1]), (7, bufE eS (o7 ++ [(rdE e_IS l2 x22).2])), (19, mapE KL.strs (0 : Int) (AV.int .i64) (mput o19 ((rdE e_IS l2 x22).2) (wrap64 ((mget (0 : Int) o19 ((rdE e_IS l2 x22).2)) + (wrap64 (x11j9 - (mx ((rdE e_IS l2 x22).1) a1_0)))))))] ⟨Le.eq (by first | rfl | simp), Le.eq (by first | rfl | simp), Le.eq (by first | rfl | simp), (by first | exact Le.oslN rfl (by first | rfl | simp) | exact Le.refl _ | exact Le.eq (by first | rfl | simp)), Le.eq (by first | rfl | simp), Le.eq (by first | rfl | simp), Le.eq (by first | rfl | simp), Le.eq (by first | rfl | simp), trivial⟩ ⟨⟨_, rfl, LeO.refl _⟩, ⟨_, rfl, LeO.refl _⟩, ⟨_, rfl, LeO.refl _⟩, trivial⟩ rfl (dom0 rfl) ?_
          exact ih.1 l0 a1_0 a1_1 l2 x22 (o7 ++ [(rdE e_IS l2 x22).2]) (mput o19 ((rdE e_IS l2 x22).2) (wrap64 ((mget (0 : Int) o19 ((rdE e_IS l2 x22).2)) + (wrap64 (x11j9 - (mx ((rdE e_IS l2 x22).1) a1_0)))))) 
      · refine RT.brF rfl ?_
        refine RT.brF rfl ?_
        refine RT.brF rfl ?_
        refine RT.brF rfl ?_
        refine RT.goto rfl ?_
        refine RS.weak [(0, sq eI l0), (2, sq e_IS l2), (4, .ref 4 0 0 0 2), (7, .osl 7 eS.w 0 o7.length o7.length), (8, .omap 19), (20, sq e_IS l2), (21, .int .i64 (l2.length : Int)), (22, .int .i64 x22)] [(4, .box [.int .i64 a1_0, .int .i64 a1_1]), (7, bufE eS o7), (19, mapE KL.strs (0 : Int) (AV.int .i64) o19)] ⟨Le.eq (by first | rfl | simp), Le.eq (by first | rfl | simp), Le.eq (by first | rfl | simp), (by first | exact Le.oslN rfl (by first | rfl | simp) | exact Le.refl _ | exact Le.eq (by first | rfl | simp)), Le.eq (by first | rfl | simp), Le.eq (by first | rfl | simp), Le.eq (by first | rfl | simp), Le.eq (by first | rfl | simp), trivial⟩ ⟨⟨_, rfl, LeO.refl _⟩, ⟨_, rfl, LeO.refl _⟩, ⟨_, rfl, LeO.refl _⟩, trivial⟩ rfl (dom0 rfl) ?_
        exact ih.1 l0 a1_0 a1_1 l2 x22 o7 o19 
    · intro l0 l2 o19 x69b x70b x71b o13b x82c o16_1c
      simp only [pileref1_CountsOf.l2]
      refine RS.go ?_
      refine RT.br rfl (fun c17 => ?_) (fun c17 => ?_)
      · refine RT.br rfl (fun c12 => ?_) (fun c12 => RT.none)
        refine RT.br rfl (fun c13 => ?_) (fun c13 => RT.none)
        refine RT.goto rfl ?_
        refine RS.draw rfl ?_
        refine RD.call (CR := []) (CW := (fun r => [])) rfl (fun _ h => pileref1_WhoAt.ok k l2 (rd l0 x82c) _ h) (fun i => i) trivial (fun _ => rfl) ⟨_, _, _, _, rfl, rfl, rfl⟩ (LeL.eq rfl) trivial (fun _ => rfl) (fun r14 => ?_)
        refine RD.call (CR := []) (CW := (fun r => [])) rfl (fun _ h => pileref1_truth.ok (decide (r14 = (rdE eS x69b x71b))) _ h) (fun i => i) trivial (fun _ => rfl) ⟨_, _, _, _, rfl, rfl, rfl⟩ (LeL.eq rfl) trivial (fun _ => rfl) (fun r15 => ?_)
        refine RD.fin pileref1_CountsOf.k0 pileref1_CountsOf.k1 rfl rfl (by decide +kernel) ?_
        refine RS.go ?_
        refine RT.goto rfl ?_
        refine RS.weak [(0, sq eI l0), (2, sq e_IS l2), (8, .omap 19), (13, .osl 13 e_SII.w 0 o13b.length o13b.length), (15, .str (rdE eS x69b x71b)), (16, .ref 16 0 0 0 3), (69, sq eS x69b), (70, .int .i64 x70b), (71, .int .i64 x71b), (80, sq eI l0), (81, .int .i64 (l0.length : Int)), (82, .int .i64 (wrap64 (x82c + 1)))] [(13, bufE e_SII o13b), (16, .box [.str (rdE eS x69b x71b), .int .i64 (wrap64 (o16_1c + r15)), .int .i64 (mget (0 : Int) o19 (rdE eS x69b x71b))]), (19, mapE KL.strs (0 : Int) (AV.int .i64) o19)] ⟨Le.eq (by first | rfl | simp), Le.eq (by first | rfl | simp), Le.eq (by first | rfl | simp), (by first | exact Le.oslN rfl (by first | rfl | simp) | exact Le.refl _ | exact Le.eq (by first | rfl | simp)), Le.eq (by first | rfl | simp), Le.eq (by first | rfl | simp), Le.eq (by first | rfl | simp), Le.eq (by first | rfl | simp), Le.eq (by first | rfl | simp), Le.eq (by first | rfl | simp), Le.eq (by first | rfl | simp), Le.eq (by first | rfl | simp), trivial⟩ ⟨⟨_, rfl, LeO.refl _⟩, ⟨_, rfl, LeO.refl _⟩, ⟨_, rfl, LeO.refl _⟩, trivial⟩ rfl (dom0 rfl) ?_
        exact ih.2.2.1 l0 l2 o19 x69b x70b x71b o13b (wrap64 (x82c + 1)) (wrap64 (o16_1c + r15)) 
      · refine RT.goto rfl ?_
        refine RS.slot 99 (sq e_SII [((rdE eS x69b x71b), o16_1c, (mget (0 : Int) o19 (rdE eS x69b x71b)))]) (Le.lit (E := e_SII) (l := [((rdE eS x69b x71b), o16_1c, (mget (0 : Int) o19 (rdE eS x69b x71b)))]) (cells_of rfl)) ?_
        refine RS.go ?_
        refine RT.req rfl ⟨by first | rfl | simp, by first | exact Nat.le_refl _ | simp⟩ ?_
        refine RT.not rfl (by simp <;> omega) ?_
        refine RT.br rfl (fun c16 => ?_) (fun _ => RT.none)
        refine RT.goto rfl ?_
        refine RS.obj 13 (bufE e_SII (o13b ++ [((rdE eS x69b x71b), o16_1c, (mget (0 : Int) o19 (rdE eS x69b x71b)))])) ⟨_, rfl, LeO.app (l := o13b) (m := [((rdE eS x69b x71b), o16_1c, (mget (0 : Int) o19 (rdE eS x69b x71b)))]) fun _ _ _ _ => rfl⟩ ?_
        refine RS.slot 100 (.osl 13 e_SII.w 0 (o13b ++ [((rdE eS x69b x71b), o16_1c, (mget (0 : Int) o19 (rdE eS x69b x71b)))]).length (o13b ++ [((rdE eS x69b x71b), o16_1c, (mget (0 : Int) o19 (rdE eS x69b x71b)))]).length) (by first | exact Le.oslN rfl (by simp) | exact Le.trans (y := .osl 13 e_SII.w 0 (o13b.length + [((rdE eS x69b x71b), o16_1c, (mget (0 : Int) o19 (rdE eS x69b x71b)))].length) (o13b.length + [((rdE eS x69b x71b), o16_1c, (mget (0 : Int) o19 (rdE eS x69b x71b)))].length)) (Le.refl _) (Le.oslN rfl (by simp))) ?_
        refine RS.go ?_
        refine RT.goto rfl ?_
        refine RS.weak [(0, sq eI l0), (2, sq e_IS l2), (8, .omap 19), (13, .osl 13 e_SII.w 0 (o13b ++ [((rdE eS x69b x71b), o16_1c, (mget (0 : Int) o19 (rdE eS x69b x71b)))]).length (o13b ++ [((rdE eS x69b x71b), o16_1c, (mget (0 : Int) o19 (rdE eS x69b x71b)))]).length), (69, sq eS x69b), (70, .int .i64 x70b), (71, .int .i64 (wrap64 (x71b + 1)))] [(13, bufE e_SII (o13b ++ [((rdE eS x69b x71b), o16_1c, (mget (0 : Int) o19 (rdE eS x69b x71b)))])), (19, mapE KL.strs (0 : Int) (AV.int .i64) o19)] ⟨Le.eq (by first | rfl | simp), Le.eq (by first | rfl | simp), Le.eq (by first | rfl | simp), (by first | exact Le.oslN rfl (by first | rfl | simp) | exact Le.refl _ | exact Le.eq (by first | rfl | simp)), Le.eq (by first | rfl | simp), Le.eq (by first | rfl | simp), Le.eq (by first | rfl | simp), trivial⟩ ⟨⟨_, rfl, LeO.refl _⟩, ⟨_, rfl, LeO.refl _⟩, trivial⟩ rfl (dom0 rfl) ?_
        exact ih.2.2.2.1 l0 l2 o19 x69b x70b (wrap64 (x71b + 1)) (o13b ++ [((rdE eS x69b x71b), o16_1c, (mget (0 : Int) o19 (rdE eS x69b x71b)))]) 
    · intro l0 l2 o19 x69b x70b x71b o13b
      simp only [pileref1_CountsOf.l1]
      refine RS.go ?_
      refine RT.br rfl (fun c18 => ?_) (fun c18 => ?_)
      · refine RT.br rfl (fun c10 => ?_) (fun c10 => RT.none)
        refine RT.br rfl (fun c11 => ?_) (fun c11 => RT.none)
        refine RT.req rfl (congrArg (AV.int .i64) (map_end (l := o19) (d := (0 : Int)))) ?_
        refine RT.goto rfl ?_
        refine RS.weak [(0, sq eI l0), (2, sq e_IS l2), (8, .omap 19), (13, .osl 13 e_SII.w 0 o13b.length o13b.length), (15, .str (rdE eS x69b x71b)), (16, .ref 16 0 0 0 3), (69, sq eS x69b), (70, .int .i64 x70b), (71, .int .i64 x71b), (80, sq eI l0), (81, .int .i64 (l0.length : Int)), (82, .int .i64 0)] [(13, bufE e_SII o13b), (16, .box [.str (rdE eS x69b x71b), .int .i64 0, .int .i64 (mget (0 : Int) o19 (rdE eS x69b x71b))]), (19, mapE KL.strs (0 : Int) (AV.int .i64) o19)] ⟨Le.eq (by first | rfl | simp), Le.eq (by first | rfl | simp), Le.eq (by first | rfl | simp), (by first | exact Le.oslN rfl (by first | rfl | simp) | exact Le.refl _ | exact Le.eq (by first | rfl | simp)), Le.eq (by first | rfl | simp), Le.eq (by first | rfl | simp), Le.eq (by first | rfl | simp), Le.eq (by first | rfl | simp), Le.eq (by first | rfl | simp), Le.eq (by first | rfl | simp), Le.eq (by first | rfl | simp), Le.eq (by first | rfl | simp), trivial⟩ ⟨⟨_, rfl, LeO.refl _⟩, ⟨_, rfl, LeO.refl _⟩, ⟨_, rfl, LeO.refl _⟩, trivial⟩ rfl (dom0 rfl) ?_
        exact ih.2.2.1 l0 l2 o19 x69b x70b x71b o13b 0 0 
      · refine RT.freeze 13 _ _ _ [(6, sq e_SII o13b)] [] rfl rfl ⟨.inr ⟨_, rfl, by first | exact Nat.le_refl _ | simp, rfl⟩, trivial⟩ trivial rfl (dom0 rfl) ?_
        exact RT.done rfl rfl (Le.refl _) trivial rfl (dom0 rfl)
    · intro l0 a1_0 a1_1 l2 x22 o7 o19
      simp only [pileref1_CountsOf.l0]
      refine RS.go ?_
      refine RT.br rfl (fun c19 => ?_) (fun c19 => ?_)
      · refine RT.br rfl (fun c1 => ?_) (fun c1 => RT.none)
        refine RT.br rfl (fun c2 => ?_) (fun c2 => RT.none)
        refine RT.br rfl (fun c8 => ?_) (fun c8 => ?_)
        · refine RT.br rfl (fun c3 => ?_) (fun c3 => RT.none)
          refine RT.br rfl (fun c4 => ?_) (fun c4 => RT.none)
          refine RT.goto rfl ?_
          refine RS.weak [(0, sq eI l0), (2, sq e_IS l2), (4, .ref 4 0 0 0 2), (7, .osl 7 eS.w 0 o7.length o7.length), (8, .omap 19), (10, .ref 10 0 0 0 2), (11, .int .i64 (mn a1_1 ((rdE e_IS l2 (wrap64 (x22 + 1))).1))), (20, sq e_IS l2), (21, .int .i64 (l2.length : Int)), (22, .int .i64 x22)] [(4, .box [.int .i64 a1_0, .int .i64 a1_1]), (7, bufE eS o7), (10, .box [.int .i64 ((rdE e_IS l2 x22).1), .str ((rdE e_IS l2 x22).2)]), (19, mapE KL.strs (0 : Int) (AV.int .i64) o19)] ⟨Le.eq (by first | rfl | simp), Le.eq (by first | rfl | simp), Le.eq (by first | rfl | simp), (by first | exact Le.oslN rfl (by first | rfl | simp) | exact Le.refl _ | exact Le.eq (by first | rfl | simp)), Le.eq (by first | rfl | simp), Le.eq (by first | rfl | simp), Le.eq (by first | rfl | simp), Le.eq (by first | rfl | simp), Le.eq (by first | rfl | simp), Le.eq (by first | rfl | simp), trivial⟩ ⟨⟨_, rfl, LeO.refl _⟩, ⟨_, rfl, LeO.refl _⟩, ⟨_, rfl, LeO.refl _⟩, ⟨_, rfl, LeO.refl _⟩, trivial⟩ rfl (dom0 rfl) ?_
          exact ih.2.1 l0 a1_0 a1_1 l2 x22 o7 o19 (mn a1_1 ((rdE e_IS l2 (wrap64 (x22 + 1))).1)) 
        · refine RT.goto rfl ?_
          refine RS.weak [(0, sq eI l0), (2, sq e_IS l2), (4, .ref 4 0 0 0 2), (7, .osl 7 eS.w 0 o7.length o7.length), (8, .omap 19), (10, .ref 10 0 0 0 2), (11, .int .i64 a1_1), (20, sq e_IS l2), (21, .int .i64 (l2.length : Int)), (22, .int .i64 x22)] [(4, .box [.int .i64 a1_0, .int .i64 a1_1]), (7, bufE eS o7), (10, .box [.int .i64 ((rdE e_IS l2 x22).1), .str ((rdE e_IS l2 x22).2)]), (19, mapE KL.strs (0 : Int) (AV.int .i64) o19)] ⟨Le.eq (by first | rfl | simp), Le.eq (by first | rfl | simp), Le.eq (by first | rfl | simp), (by first | exact Le.oslN rfl (by first | rfl | simp) | exact Le.refl _ | exact Le.eq (by first | rfl | simp)), Le.eq (by first | rfl | simp), Le.eq (by first | rfl | simp), Le.eq (by first | rfl | simp), Le.eq (by first | rfl | simp), Le.eq (by first | rfl | simp), Le.eq (by first | rfl | simp), trivial⟩ ⟨⟨_, rfl, LeO.refl _⟩, ⟨_, rfl, LeO.refl _⟩, ⟨_, rfl, LeO.refl _⟩, ⟨_, rfl, LeO.refl _⟩, trivial⟩ rfl (dom0 rfl) ?_
          exact ih.2.1 l0 a1_0 a1_1 l2 x22 o7 o19 a1_1 
      · refine RT.goto rfl ?_
        refine RS.freeze 7 _ _ _ [(0, sq eI l0), (2, sq e_IS l2), (7, sq eS o7), (8, .omap 19), (13, .v (.slice Option.none 0 0))] [(19, mapE KL.strs (0 : Int) (AV.int .i64) o19)] rfl ⟨.inl (Le.refl _), .inl (Le.refl _), .inr ⟨_, rfl, by first | exact Nat.le_refl _ | simp, rfl⟩, .inl (Le.refl _), .inl (Le.refl _), trivial⟩ ⟨⟨_, rfl, LeO.refl _⟩, trivial⟩ rfl (dom0 rfl) ?_
        refine RS.region ?_
        refine RS.go ?_
        refine RT.call0 rfl (fun _ h => pileref1_once.ok o7 _ h) (LeL.eq rfl) (fun _ => rfl) (fun r9 => ?_)
        refine RS.go ?_
        refine RT.goto rfl ?_
        refine RS.ghost 13 13 e_SII.w (rep e_SII []) rfl rfl ?_
        refine RS.weak [(0, sq eI l0), (2, sq e_IS l2), (8, .omap 19), (13, .osl 13 e_SII.w 0 ([] : List (ByteArray × Int × Int)).length ([] : List (ByteArray × Int × Int)).length), (69, sq eS r9), (70, .int .i64 (r9.length : Int)), (71, .int .i64 0)] [(13, bufE e_SII ([] : List (ByteArray × Int × Int))), (19, mapE KL.strs (0 : Int) (AV.int .i64) o19)] ⟨Le.eq (by first | rfl | simp), Le.eq (by first | rfl | simp), Le.eq (by first | rfl | simp), (by first | exact Le.oslN rfl (by first | rfl | simp) | exact Le.refl _ | exact Le.eq (by first | rfl | simp)), Le.eq (by first | rfl | simp), Le.eq (by first | rfl | simp), Le.eq (by first | rfl | simp), trivial⟩ ⟨⟨_, rfl, LeO.refl _⟩, ⟨_, rfl, LeO.refl _⟩, trivial⟩ rfl (dom0 rfl) ?_
        exact ih.2.2.2.1 l0 l2 o19 r9 (r9.length : Int) 0 [] 
theorem pileref1_CountsOf.ok (k : Nat) (l0 : List Int) (a1_0 : Int) (a1_1 : Int) (l2 : List (Int × ByteArray)) (r : (List (ByteArray × Int × Int))) (h : pileref1_CountsOf.f k l0 a1_0 a1_1 l2 = some r) : Ct Tryd.prog B 17 [sq eI l0, .agg [.int .i64 a1_0, .int .i64 a1_1], sq e_IS l2] (ofL []) (sq e_SII r) (ofL []) := by
  refine Ct.of (Y := (fam Tryd.f17 [9, 13, 15] [] [] (fun r : (List (ByteArray × Int × Int)) => sq e_SII r) (fun r => []))) Tryd.func17 rfl Tryd.call17 rfl rfl ?_ r h
  unfold pileref1_CountsOf.f
  refine RS.go ?_
  refine RT.goto rfl ?_
  refine RS.ghost 7 7 eS.w (rep eS []) rfl rfl ?_
  refine RS.weak [(0, sq eI l0), (2, sq e_IS l2), (4, .ref 4 0 0 0 2), (7, .osl 7 eS.w 0 ([] : List ByteArray).length ([] : List ByteArray).length), (8, .omap 19), (20, sq e_IS l2), (21, .int .i64 (l2.length : Int)), (22, .int .i64 0)] [(4, .box [.int .i64 a1_0, .int .i64 a1_1]), (7, bufE eS ([] : List ByteArray)), (19, mapE KL.strs (0 : Int) (AV.int .i64) ([] : List (ByteArray × Int)))] ⟨Le.eq (by first | rfl | simp), Le.eq (by first | rfl | simp), Le.eq (by first | rfl | simp), (by first | exact Le.oslN rfl (by first | rfl | simp) | exact Le.refl _ | exact Le.eq (by first | rfl | simp)), Le.eq (by first | rfl | simp), Le.eq (by first | rfl | simp), Le.eq (by first | rfl | simp), Le.eq (by first | rfl | simp), trivial⟩ ⟨⟨_, rfl, LeO.refl _⟩, ⟨_, rfl, LeO.refl _⟩, ⟨_, rfl, LeO.refl _⟩, trivial⟩ rfl (dom0 rfl) ?_
  exact (pileref1_CountsOf.loops k).2.2.2.2 l0 a1_0 a1_1 l2 0 [] ([] : List (ByteArray × Int)) 
/-! ### pileref1_FairestOf: function 18 -/
def pileref1_FairestOf.k0 : List DK := [⟨[41], [], [7], []⟩, ⟨[32, 40], [], [41], []⟩, ⟨[39], [], [40], []⟩, ⟨[34, 38], [], [39], []⟩, ⟨[35, 37], [], [38], []⟩, ⟨[36], [], [37], []⟩, ⟨[5], [], [36], []⟩, ⟨[6], [], [35], []⟩, ⟨[33], [11], [34], []⟩, ⟨[11], [11], [33], []⟩, ⟨[7], [], [32], []⟩]
def pileref1_FairestOf.k1 : List Nat := [0, 0, 2, 0, 0, 16, 56, 126, 254, 511, 1023]
mutual
def pileref1_FairestOf.l1 : Nat → List (ByteArray × Int × Int) → Int → Int → Int → Option (Int)
  | 0, _, _, _, _ => Option.none
  | k + 1, x5, x6, x7b, x28b => (if x28b < (x5.length : Int) then (if 0 ≤ x28b then (if x28b < (x5.length : Int) then (if (x5.length : Int) = 0 then Option.none else pileref1_FairestOf.l1 k x5 x6 (wrap64 (x7b + (mx 0 (wrap64 (((rdE e_SII x5 x28b).2.2) - (wrap64 (Int.tdiv x6 (x5.length : Int)))))))) (wrap64 (x28b + 1))) else Option.none) else Option.none) else Option.some x7b)
def pileref1_FairestOf.l0 : Nat → List (ByteArray × Int × Int) → Int → List (ByteArray × Int × Int) → Int → Int → Option (Int)
  | 0, _, _, _, _, _ => Option.none
  | k + 1, x5, x6, x15, x16, x17 => (if x17 < x16 then (if 0 ≤ x17 then (if x17 < (x15.length : Int) then pileref1_FairestOf.l0 k x5 (wrap64 (x6 + ((rdE e_SII x15 x17).2.2))) x15 x16 (wrap64 (x17 + 1)) else Option.none) else Option.none) else pileref1_FairestOf.l1 k x5 x6 0 0)
end
def pileref1_FairestOf.f (k : Nat) (l0 : List (Int × ByteArray)) (a1_0 : Int) (a1_1 : Int) : Option (Int) := ((pileref1_CountsOf.f k [] a1_0 a1_1 l0).bind fun r1 => pileref1_FairestOf.l0 k r1 0 r1 (r1.length : Int) 0)
theorem pileref1_FairestOf.loops : ∀ k, (∀ (x5 : List (ByteArray × Int × Int)) (x6 : Int) (x7b : Int) (x28b : Int), RS (fam Tryd.f18 [] [] [] (fun r : Int => .int .i64 r) (fun r => [])) (Func.head Tryd.f18 1) ⟨ofT [(5, sq e_SII x5), (6, .int .i64 x6), (7, .int .i64 x7b), (26, sq e_SII x5), (27, .int .i64 (x5.length : Int)), (28, .int .i64 x28b)], ofL []⟩ (pileref1_FairestOf.l1 k x5 x6 x7b x28b)) ∧ (∀ (x5 : List (ByteArray × Int × Int)) (x6 : Int) (x15 : List (ByteArray × Int × Int)) (x16 : Int) (x17 : Int), RS (fam Tryd.f18 [] [] [] (fun r : Int => .int .i64 r) (fun r => [])) (Func.head Tryd.f18 0) ⟨ofT [(5, sq e_SII x5), (6, .int .i64 x6), (7, .int .i64 0), (15, sq e_SII x15), (16, .int .i64 x16), (17, .int .i64 x17)], ofL []⟩ (pileref1_FairestOf.l0 k x5 x6 x15 x16 x17))
  | 0 => ⟨by intro _ _ _ _; simp only [pileref1_FairestOf.l1]; exact RS.none, by intro _ _ _ _ _; simp only [pileref1_FairestOf.l0]; exact RS.none⟩
  | k + 1 => by
    have ih := pileref1_FairestOf.loops k
    refine ⟨?_, ?_⟩
    · intro x5 x6 x7b x28b
      simp only [pileref1_FairestOf.l1]
      refine RS.go ?_
      refine RT.br rfl (fun c7 => ?_) (fun c7 => ?_)
      · refine RT.br rfl (fun c4 => ?_) (fun c4 => RT.none)
        refine RT.br rfl (fun c5 => ?_) (fun c5 => RT.none)
        refine RT.goto rfl ?_
        refine RS.draw rfl ?_
        refine RD.br rfl (fun _ => RD.none) (fun c6 => ?_)
        refine RD.fin pileref1_FairestOf.k0 pileref1_FairestOf.k1 rfl rfl (by decide +kernel) ?_
        refine RS.go ?_
        refine RT.goto rfl ?_
        refine RS.weak [(5, sq e_SII x5), (6, .int .i64 x6), (7, .int .i64 (wrap64 (x7b + (mx 0 (wrap64 (((rdE e_SII x5 x28b).2.2) - (wrap64 (Int.tdiv x6 (x5.length : Int))))))))), (26, sq e_SII x5), (27, .int .i64 (x5.length : Int)), (28, .int .i64 (wrap64 (x28b + 1)))] [] ⟨Le.eq (by first | rfl | simp), Le.eq (by first | rfl | simp), Le.eq (by first | rfl | simp), Le.eq (by first | rfl | simp), Le.eq (by first | rfl | simp), Le.eq (by first | rfl | simp), trivial⟩ trivial rfl (dom0 rfl) ?_
        exact ih.1 x5 x6 (wrap64 (x7b + (mx 0 (wrap64 (((rdE e_SII x5 x28b).2.2) - (wrap64 (Int.tdiv x6 (x5.length : Int)))))))) (wrap64 (x28b + 1)) 
      · exact RT.done rfl rfl (Le.refl _) trivial rfl (dom0 rfl)
    · intro x5 x6 x15 x16 x17
      simp only [pileref1_FairestOf.l0]
      refine RS.go ?_
      refine RT.br rfl (fun c8 => ?_) (fun c8 => ?_)
      · refine RT.br rfl (fun c2 => ?_) (fun c2 => RT.none)
        refine RT.br rfl (fun c3 => ?_) (fun c3 => RT.none)
        refine RT.goto rfl ?_
        refine RS.weak [(5, sq e_SII x5), (6, .int .i64 (wrap64 (x6 + ((rdE e_SII x15 x17).2.2)))), (7, .int .i64 0), (15, sq e_SII x15), (16, .int .i64 x16), (17, .int .i64 (wrap64 (x17 + 1)))] [] ⟨Le.eq (by first | rfl | simp), Le.eq (by first | rfl | simp), Le.eq (by first | rfl | simp), Le.eq (by first | rfl | simp), Le.eq (by first | rfl | simp), Le.eq (by first | rfl | simp), trivial⟩ trivial rfl (dom0 rfl) ?_
        exact ih.2 x5 (wrap64 (x6 + ((rdE e_SII x15 x17).2.2))) x15 x16 (wrap64 (x17 + 1)) 
      · refine RT.goto rfl ?_
        refine RS.weak [(5, sq e_SII x5), (6, .int .i64 x6), (7, .int .i64 0), (26, sq e_SII x5), (27, .int .i64 (x5.length : Int)), (28, .int .i64 0)] [] ⟨Le.eq (by first | rfl | simp), Le.eq (by first | rfl | simp), Le.eq (by first | rfl | simp), Le.eq (by first | rfl | simp), Le.eq (by first | rfl | simp), Le.eq (by first | rfl | simp), trivial⟩ trivial rfl (dom0 rfl) ?_
        exact ih.1 x5 x6 0 0 
theorem pileref1_FairestOf.ok (k : Nat) (l0 : List (Int × ByteArray)) (a1_0 : Int) (a1_1 : Int) (r : Int) (h : pileref1_FairestOf.f k l0 a1_0 a1_1 = some r) : Ct Tryd.prog B 18 [sq e_IS l0, .agg [.int .i64 a1_0, .int .i64 a1_1]] (ofL []) (.int .i64 r) (ofL []) := by
  refine Ct.of (Y := (fam Tryd.f18 [] [] [] (fun r : Int => .int .i64 r) (fun r => []))) Tryd.func18 rfl Tryd.call18 rfl rfl ?_ r h
  unfold pileref1_FairestOf.f
  refine RS.go ?_
  refine RT.call0 rfl (fun _ h => pileref1_CountsOf.ok k [] a1_0 a1_1 l0 _ h) (LeL.cons (Le.nil _ _) (LeL.cons (Le.refl _) (LeL.cons (Le.refl _) (LeL.nil)))) (fun _ => rfl) (fun r1 => ?_)
  refine RS.go ?_
  refine RT.goto rfl ?_
  refine RS.weak [(5, sq e_SII r1), (6, .int .i64 0), (7, .int .i64 0), (15, sq e_SII r1), (16, .int .i64 (r1.length : Int)), (17, .int .i64 0)] [] ⟨Le.eq (by first | rfl | simp), Le.eq (by first | rfl | simp), Le.eq (by first | rfl | simp), Le.eq (by first | rfl | simp), Le.eq (by first | rfl | simp), Le.eq (by first | rfl | simp), trivial⟩ trivial rfl (dom0 rfl) ?_
  exact (pileref1_FairestOf.loops k).2 r1 0 r1 (r1.length : Int) 0 
/-! ### slices_Equal_api_Count_api_Count: function 19 -/
def slices_Equal_api_Count_api_Count.k0 : List DK := [⟨[19, 23], [], [24], []⟩, ⟨[22], [], [23], []⟩, ⟨[20, 21], [], [22], []⟩, ⟨[5], [], [21], []⟩, ⟨[1], [], [20], []⟩, ⟨[18], [], [19], []⟩, ⟨[16, 17], [], [18], []⟩, ⟨[5], [], [17], []⟩, ⟨[0], [], [16], []⟩]
def slices_Equal_api_Count_api_Count.k1 : List Nat := [0, 0, 3, 7, 0, 0, 48, 112, 255]
def slices_Equal_api_Count_api_Count.l0 : Nat → List (ByteArray × Int × Int) → List (ByteArray × Int × Int) → Int → Option (Bool)
  | 0, _, _, _ => Option.none
  | k + 1, l0, l1, x13 => (if x13 < (l0.length : Int) then (if 0 ≤ x13 then (if x13 < (l0.length : Int) then (if 0 ≤ x13 then (if x13 < (l1.length : Int) then (if (decide ((rdE e_SII l0 x13).1 = (rdE e_SII l1 x13).1) && (decide ((rdE e_SII l0 x13).2.1 = (rdE e_SII l1 x13).2.1) && (decide ((rdE e_SII l0 x13).2.2 = (rdE e_SII l1 x13).2.2) && true))) = true then slices_Equal_api_Count_api_Count.l0 k l0 l1 (wrap64 (x13 + 1)) else Option.some false) else Option.none) else Option.none) else Option.none) else Option.none) else Option.some true)
def slices_Equal_api_Count_api_Count.f (k : Nat) (l0 : List (ByteArray × Int × Int)) (l1 : List (ByteArray × Int × Int)) : Option (Bool) := (if (l0.length : Int) = (l1.length : Int) then slices_Equal_api_Count_api_Count.l0 k l0 l1 0 else Option.some false)
theorem slices_Equal_api_Count_api_Count.loops : ∀ k, (∀ (l0 : List (ByteArray × Int × Int)) (l1 : List (ByteArray × Int × Int)) (x13 : Int), RS (fam Tryd.f19 [] [] [] (fun r : Bool => .bool r) (fun r => [])) (Func.head Tryd.f19 0) ⟨ofT [(0, sq e_SII l0), (1, sq e_SII l1), (12, .int .i64 (l0.length : Int)), (13, .int .i64 x13)], ofL []⟩ (slices_Equal_api_Count_api_Count.l0 k l0 l1 x13))
  | 0 => by intro _ _ _; simp only [slices_Equal_api_Count_api_Count.l0]; exact RS.none
  | k + 1 => by
    have ih := slices_Equal_api_Count_api_Count.loops k
    · intro l0 l1 x13
      simp only [slices_Equal_api_Count_api_Count.l0]
      refine RS.go ?_
      refine RT.br rfl (fun c6 => ?_) (fun c6 => ?_)
      · refine RT.goto rfl ?_
        refine RS.draw rfl ?_
        refine RD.br rfl (fun c1 => ?_) (fun c1 => RD.none)
        refine RD.br rfl (fun c2 => ?_) (fun c2 => RD.none)
        refine RD.br rfl (fun c3 => ?_) (fun c3 => RD.none)
        refine RD.br rfl (fun c4 => ?_) (fun c4 => RD.none)
        refine RD.fin slices_Equal_api_Count_api_Count.k0 slices_Equal_api_Count_api_Count.k1 rfl rfl (by decide +kernel) ?_
        refine RS.go ?_
        refine RT.brBN rfl (fun c5 => ?_) (fun c5 => ?_)
        · refine RT.goto rfl ?_
          refine RS.weak [(0, sq e_SII l0), (1, sq e_SII l1), (12, .int .i64 (l0.length : Int)), (13, .int .i64 (wrap64 (x13 + 1)))] [] ⟨Le.eq (by first | rfl | simp), Le.eq (by first | rfl | simp), Le.eq (by first | rfl | simp), Le.eq (by first | rfl | simp), trivial⟩ trivial rfl (dom0 rfl) ?_
          exact ih l0 l1 (wrap64 (x13 + 1)) 
        · exact RT.done rfl rfl (Le.refl _) trivial rfl (dom0 rfl)
      · exact RT.done rfl rfl (Le.refl _) trivial rfl (dom0 rfl)
theorem slices_Equal_api_Count_api_Count.ok (k : Nat) (l0 : List (ByteArray × Int × Int)) (l1 : List (ByteArray × Int × Int)) (r : Bool) (h : slices_Equal_api_Count_api_Count.f k l0 l1 = some r) : Ct Tryd.prog B 19 [sq e_SII l0, sq e_SII l1] (ofL []) (.bool r) (ofL []) := by
  refine Ct.of (Y := (fam Tryd.f19 [] [] [] (fun r : Bool => .bool r) (fun r => []))) Tryd.func19 rfl Tryd.call19 rfl rfl ?_ r h
  unfold slices_Equal_api_Count_api_Count.f
  refine RS.go ?_
  refine RT.brN rfl (fun c7 => ?_) (fun c7 => ?_)
  · refine RT.goto rfl ?_
    refine RS.weak [(0, sq e_SII l0), (1, sq e_SII l1), (12, .int .i64 (l0.length : Int)), (13, .int .i64 0)] [] ⟨Le.eq (by first | rfl | simp), Le.eq (by first | rfl | simp), Le.eq (by first | rfl | simp), Le.eq (by first | rfl | simp), trivial⟩ trivial rfl (dom0 rfl) ?_
    exact slices_Equal_api_Count_api_Count.loops k l0 l1 0 
  · exact RT.done rfl rfl (Le.refl _) trivial rfl (dom0 rfl)
/-! ### rate_isLong: function 71 -/
def rate_isLong.f (a0 : Int) : Option (Bool) := ((kit_Outside.f a0 60000 86400000).bind fun r1 => Option.some (!r1))
theorem rate_isLong.ok (a0 : Int) (r : Bool) (h : rate_isLong.f a0 = some r) : Ct Tryd.prog B 71 [.int .i64 a0] (ofL []) (.bool r) (ofL []) := by
  refine Ct.of (Y := (fam Tryd.f71 [] [] [] (fun r : Bool => .bool r) (fun r => []))) Tryd.func71 rfl Tryd.call71 rfl rfl ?_ r h
  unfold rate_isLong.f
  refine RS.go ?_
  refine RT.call0 rfl (fun _ h => kit_Outside.ok a0 60000 86400000 _ h) (LeL.eq rfl) (fun _ => rfl) (fun r1 => ?_)
  refine RS.go ?_
  exact RT.done rfl rfl (Le.refl _) trivial rfl (dom0 rfl)
/-! ### cmp_isNaN_int: function 126 -/
def cmp_isNaN_int.f (a0 : Int) : Option (Bool) := Option.some (!decide (a0 = a0))
theorem cmp_isNaN_int.ok (a0 : Int) (r : Bool) (h : cmp_isNaN_int.f a0 = some r) : Ct Tryd.prog B 126 [.int .i64 a0] (ofL []) (.bool r) (ofL []) := by
  refine Ct.of (Y := (fam Tryd.f126 [] [] [] (fun r : Bool => .bool r) (fun r => []))) Tryd.func126 rfl Tryd.call126 rfl rfl ?_ r h
  unfold cmp_isNaN_int.f
  refine RS.go ?_
  exact RT.done rfl rfl (Le.refl _) trivial rfl (dom0 rfl)
/-! ### cmp_Less_int: function 101 -/
def cmp_Less_int.f (a0 : Int) (a1 : Int) : Option (Bool) := ((cmp_isNaN_int.f a0).bind fun r1 => (if r1 = true then ((cmp_isNaN_int.f a1).bind fun r2 => (if r2 = true then Option.some (decide (a0 < a1)) else Option.some true)) else Option.some (decide (a0 < a1))))
theorem cmp_Less_int.ok (a0 : Int) (a1 : Int) (r : Bool) (h : cmp_Less_int.f a0 a1 = some r) : Ct Tryd.prog B 101 [.int .i64 a0, .int .i64 a1] (ofL []) (.bool r) (ofL []) := by
  refine Ct.of (Y := (fam Tryd.f101 [] [] [] (fun r : Bool => .bool r) (fun r => []))) Tryd.func101 rfl Tryd.call101 rfl rfl ?_ r h
  unfold cmp_Less_int.f
  refine RS.go ?_
  refine RT.call0 rfl (fun _ h => cmp_isNaN_int.ok a0 _ h) (LeL.eq rfl) (fun _ => rfl) (fun r1 => ?_)
  refine RS.go ?_
  refine RT.brB rfl (fun c4 => ?_) (fun c4 => ?_)
  · refine RT.brT rfl ?_
    refine RT.call0 rfl (fun _ h => cmp_isNaN_int.ok a1 _ h) (LeL.eq rfl) (fun _ => rfl) (fun r2 => ?_)
    refine RS.go ?_
    refine RT.brT rfl ?_
    refine RT.brT rfl ?_
    refine RT.brBN rfl (fun c3 => ?_) (fun c3 => ?_)
    · refine RT.brF rfl ?_
      refine RT.brF rfl ?_
      refine RT.brF rfl ?_
      exact RT.done rfl rfl (Le.refl _) trivial rfl (dom0 rfl)
    · refine RT.brT rfl ?_
      refine RT.brT rfl ?_
      refine RT.brT rfl ?_
      exact RT.done rfl rfl (Le.refl _) trivial rfl (dom0 rfl)
  · refine RT.brF rfl ?_
    refine RT.brF rfl ?_
    refine RT.brF rfl ?_
    refine RT.brF rfl ?_
    refine RT.brF rfl ?_
    refine RT.brF rfl ?_
    refine RT.brF rfl ?_
    exact RT.done rfl rfl (Le.refl _) trivial rfl (dom0 rfl)
/-! ### slices_isNaN_int: function 102 -/
def slices_isNaN_int.f (a0 : Int) : Option (Bool) := Option.some (!decide (a0 = a0))
theorem slices_isNaN_int.ok (a0 : Int) (r : Bool) (h : slices_isNaN_int.f a0 = some r) : Ct Tryd.prog B 102 [.int .i64 a0] (ofL []) (.bool r) (ofL []) := by
  refine Ct.of (Y := (fam Tryd.f102 [] [] [] (fun r : Bool => .bool r) (fun r => []))) Tryd.func102 rfl Tryd.call102 rfl rfl ?_ r h
  unfold slices_isNaN_int.f
  refine RS.go ?_
  exact RT.done rfl rfl (Le.refl _) trivial rfl (dom0 rfl)
/-! ### slices_BinarySearch_int_int: function 77 -/
def slices_BinarySearch_int_int.l0 : Nat → List Int → Int → Int → Int → Option (Int × Bool)
  | 0, _, _, _, _ => Option.none
  | k + 1, l0, a1, x7, x8 => (if x7 < x8 then (if 0 ≤ wrap64 (Int.fdiv (IntKind.u64.wrap (wrap64 (x7 + x8))) (2 ^ (min (Int.toNat 1) 64))) then (if wrap64 (Int.fdiv (IntKind.u64.wrap (wrap64 (x7 + x8))) (2 ^ (min (Int.toNat 1) 64))) < (l0.length : Int) then ((cmp_Less_int.f (rd l0 (wrap64 (Int.fdiv (IntKind.u64.wrap (wrap64 (x7 + x8))) (2 ^ (min (Int.toNat 1) 64))))) a1).bind fun r3 => (if r3 = true then slices_BinarySearch_int_int.l0 k l0 a1 (wrap64 ((wrap64 (Int.fdiv (IntKind.u64.wrap (wrap64 (x7 + x8))) (2 ^ (min (Int.toNat 1) 64)))) + 1)) x8 else slices_BinarySearch_int_int.l0 k l0 a1 x7 (wrap64 (Int.fdiv (IntKind.u64.wrap (wrap64 (x7 + x8))) (2 ^ (min (Int.toNat 1) 64)))))) else Option.none) else Option.none) else (if x7 < (l0.length : Int) then (if 0 ≤ x7 then (if x7 < (l0.length : Int) then (if (rd l0 x7) = a1 then Option.some (x7, true) else (if 0 ≤ x7 then (if x7 < (l0.length : Int) then ((slices_isNaN_int.f (rd l0 x7)).bind fun r9 => (if r9 = true then ((slices_isNaN_int.f a1).bind fun r10 => Option.some (x7, r10)) else Option.some (x7, false))) else Option.none) else Option.none)) else Option.none) else Option.none) else Option.some (x7, false)))
def slices_BinarySearch_int_int.f (k : Nat) (l0 : List Int) (a1 : Int) : Option (Int × Bool) := slices_BinarySearch_int_int.l0 k l0 a1 0 (l0.length : Int)
theorem slices_BinarySearch_int_int.loops : ∀ k, (∀ (l0 : List Int) (a1 : Int) (x7 : Int) (x8 : Int), RS (fam Tryd.f77 [] [] [] (fun r : Int × Bool => .tup [.int .i64 r.1, .bool r.2]) (fun r => [])) (Func.head Tryd.f77 0) ⟨ofT [(0, sq eI l0), (1, .int .i64 a1), (6, .int .i64 (l0.length : Int)), (7, .int .i64 x7), (8, .int .i64 x8)], ofL []⟩ (slices_BinarySearch_int_int.l0 k l0 a1 x7 x8))
  | 0 => by intro _ _ _ _; simp only [slices_BinarySearch_int_int.l0]; exact RS.none
  | k + 1 => by
    have ih := slices_BinarySearch_int_int.loops k
    · intro l0 a1 x7 x8
      simp only [slices_BinarySearch_int_int.l0]
      refine RS.go ?_
      refine RT.br rfl (fun c14 => ?_) (fun c14 => ?_)
      · refine RT.brF rfl ?_
        refine RT.br rfl (fun c1 => ?_) (fun c1 => RT.none)
        refine RT.br rfl (fun c2 => ?_) (fun c2 => RT.none)
        refine RT.call0 rfl (fun _ h => cmp_Less_int.ok (rd l0 (wrap64 (Int.fdiv (IntKind.u64.wrap (wrap64 (x7 + x8))) (2 ^ (min (Int.toNat 1) 64))))) a1 _ h) (LeL.eq rfl) (fun _ => rfl) (fun r3 => ?_)
        refine RS.go ?_
        refine RT.brB rfl (fun c4 => ?_) (fun c4 => ?_)
        · refine RT.goto rfl ?_
          refine RS.weak [(0, sq eI l0), (1, .int .i64 a1), (6, .int .i64 (l0.length : Int)), (7, .int .i64 (wrap64 ((wrap64 (Int.fdiv (IntKind.u64.wrap (wrap64 (x7 + x8))) (2 ^ (min (Int.toNat 1) 64)))) + 1))), (8, .int .i64 x8)] [] ⟨Le.eq (by first | rfl | simp), Le.eq (by first | rfl | simp), Le.eq (by first | rfl | simp), Le.eq (by first | rfl | simp), Le.eq (by first | rfl | simp), trivial⟩ trivial rfl (dom0 rfl) ?_
          exact ih l0 a1 (wrap64 ((wrap64 (Int.fdiv (IntKind.u64.wrap (wrap64 (x7 + x8))) (2 ^ (min (Int.toNat 1) 64)))) + 1)) x8 
        · refine RT.goto rfl ?_
          refine RS.weak [(0, sq eI l0), (1, .int .i64 a1), (6, .int .i64 (l0.length : Int)), (7, .int .i64 x7), (8, .int .i64 (wrap64 (Int.fdiv (IntKind.u64.wrap (wrap64 (x7 + x8))) (2 ^ (min (Int.toNat 1) 64)))))] [] ⟨Le.eq (by first | rfl | simp), Le.eq (by first | rfl | simp), Le.eq (by first | rfl | simp), Le.eq (by first | rfl | simp), Le.eq (by first | rfl | simp), trivial⟩ trivial rfl (dom0 rfl) ?_
          exact ih l0 a1 x7 (wrap64 (Int.fdiv (IntKind.u64.wrap (wrap64 (x7 + x8))) (2 ^ (min (Int.toNat 1) 64)))) 
      · refine RT.br rfl (fun c13 => ?_) (fun c13 => ?_)
        · refine RT.brT rfl ?_
          refine RT.brT rfl ?_
          refine RT.br rfl (fun c5 => ?_) (fun c5 => RT.none)
          refine RT.br rfl (fun c6 => ?_) (fun c6 => RT.none)
          refine RT.brT rfl ?_
          refine RT.brT rfl ?_
          refine RT.brT rfl ?_
          refine RT.brT rfl ?_
          refine RT.br rfl (fun c12 => ?_) (fun c12 => ?_)
          · refine RT.brT rfl ?_
            refine RT.brT rfl ?_
            refine RT.brT rfl ?_
            refine RT.brT rfl ?_
            refine RT.brT rfl ?_
            refine RT.brT rfl ?_
            refine RT.brT rfl ?_
            refine RT.brT rfl ?_
            refine RT.brT rfl ?_
            exact RT.done rfl rfl (Le.tup (LeL.cons (Le.refl _) (LeL.cons (Le.refl _) (LeL.nil)))) trivial rfl (dom0 rfl)
          · refine RT.brF rfl ?_
            refine RT.brF rfl ?_
            refine RT.br rfl (fun c7 => ?_) (fun c7 => RT.none)
            refine RT.br rfl (fun c8 => ?_) (fun c8 => RT.none)
            refine RT.brF rfl ?_
            refine RT.brF rfl ?_
            refine RT.call0 rfl (fun _ h => slices_isNaN_int.ok (rd l0 x7) _ h) (LeL.eq rfl) (fun _ => rfl) (fun r9 => ?_)
            refine RS.go ?_
            refine RT.brF rfl ?_
            refine RT.brB rfl (fun c11 => ?_) (fun c11 => ?_)
            · refine RT.brT rfl ?_
              refine RT.call0 rfl (fun _ h => slices_isNaN_int.ok a1 _ h) (LeL.eq rfl) (fun _ => rfl) (fun r10 => ?_)
              refine RS.go ?_
              refine RT.brF rfl ?_
              refine RT.brT rfl ?_
              refine RT.brT rfl ?_
              refine RT.brF rfl ?_
              refine RT.brT rfl ?_
              exact RT.done rfl rfl (Le.tup (LeL.cons (Le.refl _) (LeL.cons (Le.refl _) (LeL.nil)))) trivial rfl (dom0 rfl)
            · refine RT.brF rfl ?_
              refine RT.brF rfl ?_
              refine RT.brF rfl ?_
              refine RT.brT rfl ?_
              refine RT.brF rfl ?_
              refine RT.brT rfl ?_
              exact RT.done rfl rfl (Le.tup (LeL.cons (Le.refl _) (LeL.cons (Le.refl _) (LeL.nil)))) trivial rfl (dom0 rfl)
        · refine RT.brF rfl ?_
          refine RT.brF rfl ?_
          refine RT.brF rfl ?_
          refine RT.brF rfl ?_
          refine RT.brF rfl ?_
          refine RT.brF rfl ?_
          refine RT.brF rfl ?_
          refine RT.brF rfl ?_
          exact RT.done rfl rfl (Le.tup (LeL.cons (Le.refl _) (LeL.cons (Le.refl _) (LeL.nil)))) trivial rfl (dom0 rfl)
theorem slices_BinarySearch_int_int.ok (k : Nat) (l0 : List Int) (a1 : Int) (r : Int × Bool) (h : slices_BinarySearch_int_int.f k l0 a1 = some r) : Ct Tryd.prog B 77 [sq eI l0, .int .i64 a1] (ofL []) (.tup [.int .i64 r.1, .bool r.2]) (ofL []) := by
  refine Ct.of (Y := (fam Tryd.f77 [] [] [] (fun r : Int × Bool => .tup [.int .i64 r.1, .bool r.2]) (fun r => []))) Tryd.func77 rfl Tryd.call77 rfl rfl ?_ r h
  unfold slices_BinarySearch_int_int.f
  refine RS.go ?_
  refine RT.goto rfl ?_
  refine RS.weak [(0, sq eI l0), (1, .int .i64 a1), (6, .int .i64 (l0.length : Int)), (7, .int .i64 0), (8, .int .i64 (l0.length : Int))] [] ⟨Le.eq (by first | rfl | simp), Le.eq (by first | rfl | simp), Le.eq (by first | rfl | simp), Le.eq (by first | rfl | simp), Le.eq (by first | rfl | simp), trivial⟩ trivial rfl (dom0 rfl) ?_
  exact slices_BinarySearch_int_int.loops k l0 a1 0 (l0.length : Int) 
/-! ### rate_before: function 53 -/
def rate_before.f (k : Nat) (l0 : List Int) (a1 : Int) : Option (Int) := ((slices_BinarySearch_int_int.f k l0 a1).bind fun r1 => Option.some r1.1)
theorem rate_before.ok (k : Nat) (l0 : List Int) (a1 : Int) (r : Int) (h : rate_before.f k l0 a1 = some r) : Ct Tryd.prog B 53 [sq eI l0, .int .i64 a1] (ofL []) (.int .i64 r) (ofL []) := by
  refine Ct.of (Y := (fam Tryd.f53 [] [] [] (fun r : Int => .int .i64 r) (fun r => []))) Tryd.func53 rfl Tryd.call53 rfl rfl ?_ r h
  unfold rate_before.f
  refine RS.go ?_
  refine RT.call0 rfl (fun _ h => slices_BinarySearch_int_int.ok k l0 a1 _ h) (LeL.eq rfl) (fun _ => rfl) (fun r1 => ?_)
  refine RS.go ?_
  exact RT.done rfl rfl (Le.refl _) trivial rfl (dom0 rfl)
/-! ### rate_in: function 58 -/
def rate_in.k0 : List DK := [⟨[14], [], [4], []⟩, ⟨[13], [], [14], []⟩, ⟨[8, 12], [], [13], []⟩, ⟨[9, 11], [], [12], []⟩, ⟨[10], [3], [11], []⟩, ⟨[3], [3], [10], []⟩, ⟨[0], [], [9], []⟩, ⟨[5, 7], [], [8], []⟩, ⟨[6], [3], [7], []⟩, ⟨[3], [3], [6], []⟩, ⟨[0], [], [5], []⟩]
def rate_in.k1 : List Nat := [0, 0, 2, 7, 0, 0, 32, 127, 255, 511, 1023]
def rate_in.f (k : Nat) (l0 : List Int) (a1_0 : Int) (a1_1 : Int) : Option (Int) := ((rate_before.f k l0 a1_1).bind fun r1 => ((rate_before.f k l0 a1_0).bind fun r2 => Option.some (mx 0 (wrap64 (r1 - r2)))))
theorem rate_in.ok (k : Nat) (l0 : List Int) (a1_0 : Int) (a1_1 : Int) (r : Int) (h : rate_in.f k l0 a1_0 a1_1 = some r) : Ct Tryd.prog B 58 [sq eI l0, .agg [.int .i64 a1_0, .int .i64 a1_1]] (ofL []) (.int .i64 r) (ofL []) := by
  refine Ct.of (Y := (fam Tryd.f58 [] [] [] (fun r : Int => .int .i64 r) (fun r => []))) Tryd.func58 rfl Tryd.call58 rfl rfl ?_ r h
  unfold rate_in.f
  refine RS.go ?_
  refine RT.goto rfl ?_
  refine RS.draw rfl ?_
  refine RD.call (CR := []) (CW := (fun r => [])) rfl (fun _ h => rate_before.ok k l0 a1_1 _ h) (fun i => i) trivial (fun _ => rfl) ⟨_, _, _, _, rfl, rfl, rfl⟩ (LeL.eq rfl) trivial (fun _ => rfl) (fun r1 => ?_)
  refine RD.call (CR := []) (CW := (fun r => [])) rfl (fun _ h => rate_before.ok k l0 a1_0 _ h) (fun i => i) trivial (fun _ => rfl) ⟨_, _, _, _, rfl, rfl, rfl⟩ (LeL.eq rfl) trivial (fun _ => rfl) (fun r2 => ?_)
  refine RD.fin rate_in.k0 rate_in.k1 rfl rfl (by decide +kernel) ?_
  refine RS.go ?_
  exact RT.done rfl rfl (Le.refl _) trivial rfl (dom0 rfl)
/-! ### rate_Best: function 45 -/
def rate_Best.k0 : List DK := [⟨[34], [], [11], []⟩, ⟨[25], [], [10], []⟩, ⟨[26, 33], [], [34], []⟩, ⟨[28, 32], [], [33], []⟩, ⟨[30, 31], [], [32], []⟩, ⟨[2], [], [31], []⟩, ⟨[29], [4], [30], []⟩, ⟨[4], [4], [29], []⟩, ⟨[27], [4], [28], []⟩, ⟨[4], [4], [27], []⟩, ⟨[0], [], [26], []⟩, ⟨[24], [4], [25], []⟩, ⟨[4], [4], [24], []⟩]
def rate_Best.k1 : List Nat := [0, 1, 0, 0, 8, 0, 32, 0, 224, 504, 1020, 2047, 4095]
mutual
def rate_Best.j13 : Nat → List Int → Int → Int → Int → Int → Option (Int × Int × Int)
  | 0, _, _, _, _, _ => Option.none
  | k + 1, l0, a2, x37, x10j13, x11j13 => rate_Best.l0 k l0 a2 x10j13 x11j13 (wrap64 (x37 + 1))
def rate_Best.l0 : Nat → List Int → Int → Int → Int → Int → Option (Int × Int × Int)
  | 0, _, _, _, _, _ => Option.none
  | k + 1, l0, a2, x10, x11, x37 => (if x37 < (l0.length : Int) then (if 0 ≤ x37 then (if x37 < (l0.length : Int) then ((rate_in.f k l0 (rd l0 x37) (wrap64 ((rd l0 x37) + a2))).bind fun r6 => (if r6 > x11 then rate_Best.j13 k l0 a2 x37 (rd l0 x37) r6 else rate_Best.j13 k l0 a2 x37 x10 x11)) else Option.none) else Option.none) else Option.some (x10, x11, 0))
end
def rate_Best.f (k : Nat) (l0 : List Int) (a1_0 : Int) (a1_1 : Int) (a2 : Int) : Option (Int × Int × Int) := ((rate_CheckTimes.f k l0 a1_0 a1_1).bind fun r1 => (if r1 = 0 then ((rate_isLong.f a2).bind fun r2 => (if r2 = true then ((rate_in.f k l0 a1_0 (wrap64 (a1_0 + a2))).bind fun r3 => rate_Best.l0 k l0 a2 a1_0 r3 0) else Option.some (0, 0, 1))) else Option.some (0, 0, r1)))
theorem rate_Best.loops : ∀ k, (∀ (l0 : List Int) (a2 : Int) (x37 : Int) (x10j13 : Int) (x11j13 : Int), RS (fam Tryd.f45 [13] [] [] (fun r : Int × Int × Int => .tup [.int .i64 r.1, .int .i64 r.2.1, .int .i64 r.2.2]) (fun r => [])) (Func.reg Tryd.f45 13) ⟨ofT [(0, sq eI l0), (2, .int .i64 a2), (10, .int .i64 x10j13), (11, .int .i64 x11j13), (35, sq eI l0), (36, .int .i64 (l0.length : Int)), (37, .int .i64 x37)], ofL []⟩ (rate_Best.j13 k l0 a2 x37 x10j13 x11j13)) ∧ (∀ (l0 : List Int) (a2 : Int) (x10 : Int) (x11 : Int) (x37 : Int), RS (fam Tryd.f45 [13] [] [] (fun r : Int × Int × Int => .tup [.int .i64 r.1, .int .i64 r.2.1, .int .i64 r.2.2]) (fun r => [])) (Func.head Tryd.f45 0) ⟨ofT [(0, sq eI l0), (2, .int .i64 a2), (10, .int .i64 x10), (11, .int .i64 x11), (35, sq eI l0), (36, .int .i64 (l0.length : Int)), (37, .int .i64 x37)], ofL []⟩ (rate_Best.l0 k l0 a2 x10 x11 x37))
  | 0 => ⟨by intro _ _ _ _ _; simp only [rate_Best.j13]; exact RS.none, by intro _ _ _ _ _; simp only [rate_Best.l0]; exact RS.none⟩
  | k + 1 => by
    have ih := rate_Best.loops k
    refine ⟨?_, ?_⟩
    · intro l0 a2 x37 x10j13 x11j13
      simp only [rate_Best.j13]
      refine RS.region ?_
      refine RS.go ?_
      refine RT.goto rfl ?_
      refine RS.weak [(0, sq eI l0), (2, .int .i64 a2), (10, .int .i64 x10j13), (11, .int .i64 x11j13), (35, sq eI l0), (36, .int .i64 (l0.length : Int)), (37, .int .i64 (wrap64 (x37 + 1)))] [] ⟨Le.eq (by first | rfl | simp), Le.eq (by first | rfl | simp), Le.eq (by first | rfl | simp), Le.eq (by first | rfl | simp), Le.eq (by first | rfl | simp), Le.eq (by first | rfl | simp), Le.eq (by first | rfl | simp), trivial⟩ trivial rfl (dom0 rfl) ?_
      exact ih.2 l0 a2 x10j13 x11j13 (wrap64 (x37 + 1)) 
    · intro l0 a2 x10 x11 x37
      simp only [rate_Best.l0]
      refine RS.go ?_
      refine RT.br rfl (fun c8 => ?_) (fun c8 => ?_)
      · refine RT.br rfl (fun c4 => ?_) (fun c4 => RT.none)
        refine RT.br rfl (fun c5 => ?_) (fun c5 => RT.none)
        refine RT.call0 rfl (fun _ h => rate_in.ok k l0 (rd l0 x37) (wrap64 ((rd l0 x37) + a2)) _ h) (LeL.eq rfl) (fun _ => rfl) (fun r6 => ?_)
        refine RS.go ?_
        refine RT.br rfl (fun c7 => ?_) (fun c7 => ?_)
        · refine RT.goto rfl ?_
          refine RS.weak [(0, sq eI l0), (2, .int .i64 a2), (10, .int .i64 (rd l0 x37)), (11, .int .i64 r6), (35, sq eI l0), (36, .int .i64 (l0.length : Int)), (37, .int .i64 x37)] [] ⟨Le.eq (by first | rfl | simp), Le.eq (by first | rfl | simp), Le.eq (by first | rfl | simp), Le.eq (by first | rfl | simp), Le.eq (by first | rfl | simp), Le.eq (by first | rfl | simp), Le.eq (by first | rfl | simp), trivial⟩ trivial rfl (dom0 rfl) ?_
          exact ih.1 l0 a2 x37 (rd l0 x37) r6 
        · refine RT.goto rfl ?_
          refine RS.weak [(0, sq eI l0), (2, .int .i64 a2), (10, .int .i64 x10), (11, .int .i64 x11), (35, sq eI l0), (36, .int .i64 (l0.length : Int)), (37, .int .i64 x37)] [] ⟨Le.eq (by first | rfl | simp), Le.eq (by first | rfl | simp), Le.eq (by first | rfl | simp), Le.eq (by first | rfl | simp), Le.eq (by first | rfl | simp), Le.eq (by first | rfl | simp), Le.eq (by first | rfl | simp), trivial⟩ trivial rfl (dom0 rfl) ?_
          exact ih.1 l0 a2 x37 x10 x11 
      · exact RT.done rfl rfl (Le.tup (LeL.cons (Le.refl _) (LeL.cons (Le.refl _) (LeL.cons (Le.refl _) (LeL.nil))))) trivial rfl (dom0 rfl)
theorem rate_Best.ok (k : Nat) (l0 : List Int) (a1_0 : Int) (a1_1 : Int) (a2 : Int) (r : Int × Int × Int) (h : rate_Best.f k l0 a1_0 a1_1 a2 = some r) : Ct Tryd.prog B 45 [sq eI l0, .agg [.int .i64 a1_0, .int .i64 a1_1], .int .i64 a2] (ofL []) (.tup [.int .i64 r.1, .int .i64 r.2.1, .int .i64 r.2.2]) (ofL []) := by
  refine Ct.of (Y := (fam Tryd.f45 [13] [] [] (fun r : Int × Int × Int => .tup [.int .i64 r.1, .int .i64 r.2.1, .int .i64 r.2.2]) (fun r => []))) Tryd.func45 rfl Tryd.call45 rfl rfl ?_ r h
  unfold rate_Best.f
  refine RS.go ?_
  refine RT.call0 rfl (fun _ h => rate_CheckTimes.ok k l0 a1_0 a1_1 _ h) (LeL.eq rfl) (fun _ => rfl) (fun r1 => ?_)
  refine RS.go ?_
  refine RT.brN rfl (fun c10 => ?_) (fun c10 => ?_)
  · refine RT.call0 rfl (fun _ h => rate_isLong.ok a2 _ h) (LeL.eq rfl) (fun _ => rfl) (fun r2 => ?_)
    refine RS.go ?_
    refine RT.brBN rfl (fun c9 => ?_) (fun c9 => ?_)
    · refine RT.goto rfl ?_
      refine RS.draw rfl ?_
      refine RD.call (CR := []) (CW := (fun r => [])) rfl (fun _ h => rate_in.ok k l0 a1_0 (wrap64 (a1_0 + a2)) _ h) (fun i => i) trivial (fun _ => rfl) ⟨_, _, _, _, rfl, rfl, rfl⟩ (LeL.eq rfl) trivial (fun _ => rfl) (fun r3 => ?_)
      refine RD.fin rate_Best.k0 rate_Best.k1 rfl rfl (by decide +kernel) ?_
      refine RS.go ?_
      refine RT.goto rfl ?_
      refine RS.weak [(0, sq eI l0), (2, .int .i64 a2), (10, .int .i64 a1_0), (11, .int .i64 r3), (35, sq eI l0), (36, .int .i64 (l0.length : Int)), (37, .int .i64 0)] [] ⟨Le.eq (by first | rfl | simp), Le.eq (by first | rfl | simp), Le.eq (by first | rfl | simp), Le.eq (by first | rfl | simp), Le.eq (by first | rfl | simp), Le.eq (by first | rfl | simp), Le.eq (by first | rfl | simp), trivial⟩ trivial rfl (dom0 rfl) ?_
      exact (rate_Best.loops k).2 l0 a2 a1_0 r3 0 
    · exact RT.done rfl rfl (Le.tup (LeL.cons (Le.refl _) (LeL.cons (Le.refl _) (LeL.cons (Le.refl _) (LeL.nil))))) trivial rfl (dom0 rfl)
  · exact RT.done rfl rfl (Le.tup (LeL.cons (Le.refl _) (LeL.cons (Le.refl _) (LeL.cons (Le.refl _) (LeL.nil))))) trivial rfl (dom0 rfl)
/-! ### pilelaw1_rated: function 20 -/
def pilelaw1_rated.f (k : Nat) : Option (Bool) := ((rate_Best.f k [0, 600000, 1200000] 0 3600000 900000).bind fun r1 => (if r1.2.2 = 0 then (if r1.1 = 0 then Option.some (decide (r1.2.1 = 2)) else Option.some false) else Option.some false))
theorem pilelaw1_rated.ok (k : Nat) (r : Bool) (h : pilelaw1_rated.f k  = some r) : Ct Tryd.prog B 20 [] (ofL []) (.bool r) (ofL []) := by
  refine Ct.of (Y := (fam Tryd.f20 [] [] [] (fun r : Bool => .bool r) (fun r => []))) Tryd.func20 rfl Tryd.call20 rfl rfl ?_ r h
  unfold pilelaw1_rated.f
  refine RS.go ?_
  refine RT.goto rfl ?_
  refine RS.slot 5 (sq eI [0, 600000, 1200000]) (Le.lit (E := eI) (l := [0, 600000, 1200000]) (cells_of rfl)) ?_
  refine RS.go ?_
  refine RT.call0 rfl (fun _ h => rate_Best.ok k [0, 600000, 1200000] 0 3600000 900000 _ h) (LeL.eq rfl) (fun _ => rfl) (fun r1 => ?_)
  refine RS.go ?_
  refine RT.br rfl (fun c3 => ?_) (fun c3 => ?_)
  · refine RT.brT rfl ?_
    refine RT.brT rfl ?_
    refine RT.br rfl (fun c2 => ?_) (fun c2 => ?_)
    · refine RT.brT rfl ?_
      refine RT.brT rfl ?_
      exact RT.done rfl rfl (Le.refl _) trivial rfl (dom0 rfl)
    · refine RT.brF rfl ?_
      refine RT.brF rfl ?_
      exact RT.done rfl rfl (Le.refl _) trivial rfl (dom0 rfl)
  · refine RT.brF rfl ?_
    refine RT.brF rfl ?_
    refine RT.brF rfl ?_
    refine RT.brF rfl ?_
    refine RT.brF rfl ?_
    exact RT.done rfl rfl (Le.refl _) trivial rfl (dom0 rfl)
/-! ### pilelaw1_ShiftsTold: function 3 -/
def pilelaw1_ShiftsTold.k0 : List DK := [⟨[76], [], [18], []⟩, ⟨[71], [], [17], []⟩, ⟨[65], [], [16], []⟩, ⟨[75], [], [76], []⟩, ⟨[72, 74], [75], [75], []⟩, ⟨[73], [], [74], []⟩, ⟨[5], [5], [73], []⟩, ⟨[8], [], [72], []⟩, ⟨[70], [], [71], []⟩, ⟨[68, 69], [70], [70], []⟩, ⟨[8], [], [69], []⟩, ⟨[66, 67], [], [68], []⟩, ⟨[5], [5], [67], []⟩, ⟨[4], [], [66], []⟩, ⟨[64], [], [65], []⟩, ⟨[61, 63], [64], [64], []⟩, ⟨[62], [], [63], []⟩, ⟨[7], [], [62], []⟩, ⟨[8], [], [61], []⟩]
def pilelaw1_ShiftsTold.k1 : List Nat := [0, 0, 2, 7, 15, 0, 0, 127, 0, 511, 1023, 0, 0, 6143, 16383, 32767, 65535, 131071, 262143]
mutual
def pilelaw1_ShiftsTold.j19 : Nat → ByteArray → Bool → Int → List (ByteArray × Int × Int) → Int → Int → Int → Int → Int → Int → ByteArray → List (ByteArray × Int × Int) → Int → Option (Bool)
  | 0, _, _, _, _, _, _, _, _, _, _, _, _, _ => Option.none
  | k + 1, x9j15, x10j15, x11j15, x12j15, x13j15, x14j15, x15j15, x16j15, x17j15, x18j15, x19j15, x21j17, x20j19 => (if x11j15 = x16j15 then (if x9j15 = x19j15 then (if (x10j15 == (!decide (x19j15 = (⟨#[]⟩ : ByteArray)))) = true then (if x13j15 = x17j15 then ((slices_Equal_api_Count_api_Count.f k x12j15 x21j17).bind fun r18 => (if r18 = true then (if x15j15 = x18j15 then (if x14j15 = x20j19 then ((pilelaw1_rated.f k ).bind fun r19 => Option.some r19) else Option.some false) else Option.some false) else Option.some false)) else Option.some false) else Option.some false) else Option.some false) else Option.some false)
def pilelaw1_ShiftsTold.j17 : Nat → List (Int × ByteArray) → ByteArray → Bool → Int → List (ByteArray × Int × Int) → Int → Int → Int → Int → Int → Int → ByteArray → Int → Int → List (ByteArray × Int × Int) → Option (Bool)
  | 0, _, _, _, _, _, _, _, _, _, _, _, _, _, _, _ => Option.none
  | k + 1, x6j15, x9j15, x10j15, x11j15, x12j15, x13j15, x14j15, x15j15, x16j15, x17j15, x18j15, x19j15, o5_0j15, o5_1j15, x21j17 => (if x18j15 = 0 then ((pileref1_FairestOf.f k x6j15 o5_0j15 o5_1j15).bind fun r17 => pilelaw1_ShiftsTold.j19 k x9j15 x10j15 x11j15 x12j15 x13j15 x14j15 x15j15 x16j15 x17j15 x18j15 x19j15 x21j17 r17) else pilelaw1_ShiftsTold.j19 k x9j15 x10j15 x11j15 x12j15 x13j15 x14j15 x15j15 x16j15 x17j15 x18j15 x19j15 x21j17 0)
def pilelaw1_ShiftsTold.j15 : Nat → List Int → List (Int × ByteArray) → ByteArray → Bool → Int → List (ByteArray × Int × Int) → Int → Int → Int → Int → Int → Int → ByteArray → Int → Int → Option (Bool)
  | 0, _, _, _, _, _, _, _, _, _, _, _, _, _, _, _ => Option.none
  | k + 1, x4j15, x6j15, x9j15, x10j15, x11j15, x12j15, x13j15, x14j15, x15j15, x16j15, x17j15, x18j15, x19j15, o5_0j15, o5_1j15 => (if x17j15 = 0 then ((pileref1_CountsOf.f k x4j15 o5_0j15 o5_1j15 x6j15).bind fun r16 => pilelaw1_ShiftsTold.j17 k x6j15 x9j15 x10j15 x11j15 x12j15 x13j15 x14j15 x15j15 x16j15 x17j15 x18j15 x19j15 o5_0j15 o5_1j15 r16) else pilelaw1_ShiftsTold.j17 k x6j15 x9j15 x10j15 x11j15 x12j15 x13j15 x14j15 x15j15 x16j15 x17j15 x18j15 x19j15 o5_0j15 o5_1j15 ([] : List (ByteArray × Int × Int)))
end
def pilelaw1_ShiftsTold.f (k : Nat) (l0 : List Int) : Option (Bool) := ((pilemake_Stream_TimesOf.f k l0 0).bind fun r1 => ((pilemake_Stream_Shifts.f k r1.2.2.2.1 r1.2.2.2.2).bind fun r2 => ((pilemake_Stream_Pick.f k r2.2.1 r2.2.2 [0, 500, 1000000, 5000000, (-1)]).bind fun r3 => ((pileref1_ShiftsFault.f k r2.1).bind fun r4 => ((rate_CheckShifts.f k r2.1).bind fun r5 => (if r5 = r4 then ((rate_Who.f k r2.1 r3.1).bind fun r6 => ((rate_Counts.f k r1.1 r1.2.1 r1.2.2.1 r2.1).bind fun r7 => ((rate_Fairest.f k r2.1 r1.2.1 r1.2.2.1).bind fun r8 => ((pileref1_MomentFault.f r3.1).bind fun r9 => ((cmp_Or_api_Errno.f k [r4, r9]).bind fun r10 => ((pileref1_TimesFault.f k r1.1 r1.2.1 r1.2.2.1).bind fun r11 => ((cmp_Or_api_Errno.f k [r11, r4]).bind fun r12 => ((pileref1_TimesFault.f k [] r1.2.1 r1.2.2.1).bind fun r13 => ((cmp_Or_api_Errno.f k [r4, r13]).bind fun r14 => (if r10 = 0 then ((pileref1_WhoAt.f k r2.1 r3.1).bind fun r15 => pilelaw1_ShiftsTold.j15 k r1.1 r2.1 r6.1 r6.2.1 r6.2.2 r7.1 r7.2 r8.1 r8.2 r10 r12 r14 r15 r1.2.1 r1.2.2.1) else pilelaw1_ShiftsTold.j15 k r1.1 r2.1 r6.1 r6.2.1 r6.2.2 r7.1 r7.2 r8.1 r8.2 r10 r12 r14 (⟨#[]⟩ : ByteArray) r1.2.1 r1.2.2.1)))))))))) else Option.some false))))))
theorem pilelaw1_ShiftsTold.loops : ∀ k, (∀ (x9j15 : ByteArray) (x10j15 : Bool) (x11j15 : Int) (x12j15 : List (ByteArray × Int × Int)) (x13j15 : Int) (x14j15 : Int) (x15j15 : Int) (x16j15 : Int) (x17j15 : Int) (x18j15 : Int) (x19j15 : ByteArray) (x21j17 : List (ByteArray × Int × Int)) (x20j19 : Int), RS (fam Tryd.f3 [15, 17, 19] [] [] (fun r : Bool => .bool r) (fun r => [])) (Func.reg Tryd.f3 19) ⟨ofT [(9, .str x9j15), (10, .bool x10j15), (11, .int .i64 x11j15), (12, sq e_SII x12j15), (13, .int .i64 x13j15), (14, .int .i64 x14j15), (15, .int .i64 x15j15), (16, .int .i64 x16j15), (17, .int .i64 x17j15), (18, .int .i64 x18j15), (19, .str x19j15), (20, .int .i64 x20j19), (21, sq e_SII x21j17)], ofL []⟩ (pilelaw1_ShiftsTold.j19 k x9j15 x10j15 x11j15 x12j15 x13j15 x14j15 x15j15 x16j15 x17j15 x18j15 x19j15 x21j17 x20j19)) ∧ (∀ (x6j15 : List (Int × ByteArray)) (x9j15 : ByteArray) (x10j15 : Bool) (x11j15 : Int) (x12j15 : List (ByteArray × Int × Int)) (x13j15 : Int) (x14j15 : Int) (x15j15 : Int) (x16j15 : Int) (x17j15 : Int) (x18j15 : Int) (x19j15 : ByteArray) (o5_0j15 : Int) (o5_1j15 : Int) (x21j17 : List (ByteArray × Int × Int)), RS (fam Tryd.f3 [15, 17, 19] [] [] (fun r : Bool => .bool r) (fun r => [])) (Func.reg Tryd.f3 17) ⟨ofT [(5, .ref 5 0 0 0 2), (6, sq e_IS x6j15), (9, .str x9j15), (10, .bool x10j15), (11, .int .i64 x11j15), (12, sq e_SII x12j15), (13, .int .i64 x13j15), (14, .int .i64 x14j15), (15, .int .i64 x15j15), (16, .int .i64 x16j15), (17, .int .i64 x17j15), (18, .int .i64 x18j15), (19, .str x19j15), (20, .int .i64 0), (21, sq e_SII x21j17)], ofL [(5, .box [.int .i64 o5_0j15, .int .i64 o5_1j15])]⟩ (pilelaw1_ShiftsTold.j17 k x6j15 x9j15 x10j15 x11j15 x12j15 x13j15 x14j15 x15j15 x16j15 x17j15 x18j15 x19j15 o5_0j15 o5_1j15 x21j17)) ∧ (∀ (x4j15 : List Int) (x6j15 : List (Int × ByteArray)) (x9j15 : ByteArray) (x10j15 : Bool) (x11j15 : Int) (x12j15 : List (ByteArray × Int × Int)) (x13j15 : Int) (x14j15 : Int) (x15j15 : Int) (x16j15 : Int) (x17j15 : Int) (x18j15 : Int) (x19j15 : ByteArray) (o5_0j15 : Int) (o5_1j15 : Int), RS (fam Tryd.f3 [15, 17, 19] [] [] (fun r : Bool => .bool r) (fun r => [])) (Func.reg Tryd.f3 15) ⟨ofT [(4, sq eI x4j15), (5, .ref 5 0 0 0 2), (6, sq e_IS x6j15), (9, .str x9j15), (10, .bool x10j15), (11, .int .i64 x11j15), (12, sq e_SII x12j15), (13, .int .i64 x13j15), (14, .int .i64 x14j15), (15, .int .i64 x15j15), (16, .int .i64 x16j15), (17, .int .i64 x17j15), (18, .int .i64 x18j15), (19, .str x19j15), (20, .int .i64 0), (21, .v (.slice Option.none 0 0))], ofL [(5, .box [.int .i64 o5_0j15, .int .i64 o5_1j15])]⟩ (pilelaw1_ShiftsTold.j15 k x4j15 x6j15 x9j15 x10j15 x11j15 x12j15 x13j15 x14j15 x15j15 x16j15 x17j15 x18j15 x19j15 o5_0j15 o5_1j15))
  | 0 => ⟨by intro _ _ _ _ _ _ _ _ _ _ _ _ _; simp only [pilelaw1_ShiftsTold.j19]; exact RS.none, by intro _ _ _ _ _ _ _ _ _ _ _ _ _ _ _; simp only [pilelaw1_ShiftsTold.j17]; exact RS.none, by intro _ _ _ _ _ _ _ _ _ _ _ _ _ _ _; simp only [pilelaw1_ShiftsTold.j15]; exact RS.none⟩
  | k + 1 => by
    have ih := pilelaw1_ShiftsTold.loops k
    refine ⟨?_, ?_, ?_⟩
    · intro x9j15 x10j15 x11j15 x12j15 x13j15 x14j15 x15j15 x16j15 x17j15 x18j15 x19j15 x21j17 x20j19
      simp only [pilelaw1_ShiftsTold.j19]
      refine RS.region ?_
      refine RS.go ?_
      refine RT.br rfl (fun c26 => ?_) (fun c26 => ?_)
      · refine RT.brT rfl ?_
        refine RT.brT rfl ?_
        refine RT.brT rfl ?_
        refine RT.br rfl (fun c25 => ?_) (fun c25 => ?_)
        · refine RT.brT rfl ?_
          refine RT.brT rfl ?_
          refine RT.brT rfl ?_
          refine RT.brT rfl ?_
          refine RT.brB rfl (fun c24 => ?_) (fun c24 => ?_)
          · refine RT.brT rfl ?_
            refine RT.brT rfl ?_
            refine RT.brT rfl ?_
            refine RT.br rfl (fun c23 => ?_) (fun c23 => ?_)
            · refine RT.brT rfl ?_
              refine RT.brT rfl ?_
              refine RT.call0 rfl (fun _ h => slices_Equal_api_Count_api_Count.ok k x12j15 x21j17 _ h) (LeL.eq rfl) (fun _ => rfl) (fun r18 => ?_)
              refine RS.go ?_
              refine RT.brT rfl ?_
              refine RT.brB rfl (fun c22 => ?_) (fun c22 => ?_)
              · refine RT.brT rfl ?_
                refine RT.brT rfl ?_
                refine RT.brT rfl ?_
                refine RT.br rfl (fun c21 => ?_) (fun c21 => ?_)
                · refine RT.brT rfl ?_
                  refine RT.brT rfl ?_
                  refine RT.brT rfl ?_
                  refine RT.br rfl (fun c20 => ?_) (fun c20 => ?_)
                  · refine RT.call0 rfl (fun _ h => pilelaw1_rated.ok k  _ h) (LeL.eq rfl) (fun _ => rfl) (fun r19 => ?_)
                    refine RS.go ?_
                    refine RT.brT rfl ?_
                    exact RT.done rfl rfl (Le.refl _) trivial rfl (dom0 rfl)
                  · refine RT.brF rfl ?_
                    exact RT.done rfl rfl (Le.refl _) trivial rfl (dom0 rfl)
                · refine RT.brF rfl ?_
                  refine RT.brF rfl ?_
                  refine RT.brF rfl ?_
                  refine RT.brF rfl ?_
                  refine RT.brF rfl ?_
                  exact RT.done rfl rfl (Le.refl _) trivial rfl (dom0 rfl)
              · refine RT.brF rfl ?_
                refine RT.brF rfl ?_
                refine RT.brF rfl ?_
                refine RT.brF rfl ?_
                refine RT.brF rfl ?_
                refine RT.brF rfl ?_
                refine RT.brF rfl ?_
                refine RT.brF rfl ?_
                refine RT.brF rfl ?_
                exact RT.done rfl rfl (Le.refl _) trivial rfl (dom0 rfl)
            · refine RT.brF rfl ?_
              refine RT.brF rfl ?_
              refine RT.brF rfl ?_
              refine RT.brF rfl ?_
              refine RT.brF rfl ?_
              refine RT.brF rfl ?_
              refine RT.brF rfl ?_
              refine RT.brF rfl ?_
              refine RT.brF rfl ?_
              refine RT.brF rfl ?_
              refine RT.brF rfl ?_
              refine RT.brF rfl ?_
              refine RT.brF rfl ?_
              exact RT.done rfl rfl (Le.refl _) trivial rfl (dom0 rfl)
          · refine RT.brF rfl ?_
            refine RT.brF rfl ?_
            refine RT.brF rfl ?_
            refine RT.brF rfl ?_
            refine RT.brF rfl ?_
            refine RT.brF rfl ?_
            refine RT.brF rfl ?_
            refine RT.brF rfl ?_
            refine RT.brF rfl ?_
            refine RT.brF rfl ?_
            refine RT.brF rfl ?_
            refine RT.brF rfl ?_
            refine RT.brF rfl ?_
            refine RT.brF rfl ?_
            refine RT.brF rfl ?_
            refine RT.brF rfl ?_
            refine RT.brF rfl ?_
            exact RT.done rfl rfl (Le.refl _) trivial rfl (dom0 rfl)
        · refine RT.brF rfl ?_
          refine RT.brF rfl ?_
          refine RT.brF rfl ?_
          refine RT.brF rfl ?_
          refine RT.brF rfl ?_
          refine RT.brF rfl ?_
          refine RT.brF rfl ?_
          refine RT.brF rfl ?_
          refine RT.brF rfl ?_
          refine RT.brF rfl ?_
          refine RT.brF rfl ?_
          refine RT.brF rfl ?_
          refine RT.brF rfl ?_
          refine RT.brF rfl ?_
          refine RT.brF rfl ?_
          refine RT.brF rfl ?_
          refine RT.brF rfl ?_
          refine RT.brF rfl ?_
          refine RT.brF rfl ?_
          refine RT.brF rfl ?_
          refine RT.brF rfl ?_
          refine RT.brF rfl ?_
          exact RT.done rfl rfl (Le.refl _) trivial rfl (dom0 rfl)
      · refine RT.brF rfl ?_
        refine RT.brF rfl ?_
        refine RT.brF rfl ?_
        refine RT.brF rfl ?_
        refine RT.brF rfl ?_
        refine RT.brF rfl ?_
        refine RT.brF rfl ?_
        refine RT.brF rfl ?_
        refine RT.brF rfl ?_
        refine RT.brF rfl ?_
        refine RT.brF rfl ?_
        refine RT.brF rfl ?_
        refine RT.brF rfl ?_
        refine RT.brF rfl ?_
        refine RT.brF rfl ?_
        refine RT.brF rfl ?_
        refine RT.brF rfl ?_
        refine RT.brF rfl ?_
        refine RT.brF rfl ?_
        refine RT.brF rfl ?_
        refine RT.brF rfl ?_
        refine RT.brF rfl ?_
        refine RT.brF rfl ?_
        refine RT.brF rfl ?_
        refine RT.brF rfl ?_
        refine RT.brF rfl ?_
        exact RT.done rfl rfl (Le.refl _) trivial rfl (dom0 rfl)
    · intro x6j15 x9j15 x10j15 x11j15 x12j15 x13j15 x14j15 x15j15 x16j15 x17j15 x18j15 x19j15 o5_0j15 o5_1j15 x21j17
      simp only [pilelaw1_ShiftsTold.j17]
      refine RS.region ?_
      refine RS.go ?_
      refine RT.br rfl (fun c27 => ?_) (fun c27 => ?_)
      · refine RT.call0 rfl (fun _ h => pileref1_FairestOf.ok k x6j15 o5_0j15 o5_1j15 _ h) (LeL.eq rfl) (fun _ => rfl) (fun r17 => ?_)
        refine RS.go ?_
        refine RT.goto rfl ?_
        refine RS.weak [(9, .str x9j15), (10, .bool x10j15), (11, .int .i64 x11j15), (12, sq e_SII x12j15), (13, .int .i64 x13j15), (14, .int .i64 x14j15), (15, .int .i64 x15j15), (16, .int .i64 x16j15), (17, .int .i64 x17j15), (18, .int .i64 x18j15), (19, .str x19j15), (20, .int .i64 r17), (21, sq e_SII x21j17)] [] ⟨Le.eq (by first | rfl | simp), Le.eq (by first | rfl | simp), Le.eq (by first | rfl | simp), Le.eq (by first | rfl | simp), Le.eq (by first | rfl | simp), Le.eq (by first | rfl | simp), Le.eq (by first | rfl | simp), Le.eq (by first | rfl | simp), Le.eq (by first | rfl | simp), Le.eq (by first | rfl | simp), Le.eq (by first | rfl | simp), Le.eq (by first | rfl | simp), Le.eq (by first | rfl | simp), trivial⟩ trivial rfl (dom0 rfl) ?_
        exact ih.1 x9j15 x10j15 x11j15 x12j15 x13j15 x14j15 x15j15 x16j15 x17j15 x18j15 x19j15 x21j17 r17 
      · refine RT.goto rfl ?_
        refine RS.weak [(9, .str x9j15), (10, .bool x10j15), (11, .int .i64 x11j15), (12, sq e_SII x12j15), (13, .int .i64 x13j15), (14, .int .i64 x14j15), (15, .int .i64 x15j15), (16, .int .i64 x16j15), (17, .int .i64 x17j15), (18, .int .i64 x18j15), (19, .str x19j15), (20, .int .i64 0), (21, sq e_SII x21j17)] [] ⟨Le.eq (by first | rfl | simp), Le.eq (by first | rfl | simp), Le.eq (by first | rfl | simp), Le.eq (by first | rfl | simp), Le.eq (by first | rfl | simp), Le.eq (by first | rfl | simp), Le.eq (by first | rfl | simp), Le.eq (by first | rfl | simp), Le.eq (by first | rfl | simp), Le.eq (by first | rfl | simp), Le.eq (by first | rfl | simp), Le.eq (by first | rfl | simp), Le.eq (by first | rfl | simp), trivial⟩ trivial rfl (dom0 rfl) ?_
        exact ih.1 x9j15 x10j15 x11j15 x12j15 x13j15 x14j15 x15j15 x16j15 x17j15 x18j15 x19j15 x21j17 0 
    · intro x4j15 x6j15 x9j15 x10j15 x11j15 x12j15 x13j15 x14j15 x15j15 x16j15 x17j15 x18j15 x19j15 o5_0j15 o5_1j15
      simp only [pilelaw1_ShiftsTold.j15]
      refine RS.region ?_
      refine RS.go ?_
      refine RT.br rfl (fun c28 => ?_) (fun c28 => ?_)
      · refine RT.call0 rfl (fun _ h => pileref1_CountsOf.ok k x4j15 o5_0j15 o5_1j15 x6j15 _ h) (LeL.eq rfl) (fun _ => rfl) (fun r16 => ?_)
        refine RS.go ?_
        refine RT.goto rfl ?_
        refine RS.weak [(5, .ref 5 0 0 0 2), (6, sq e_IS x6j15), (9, .str x9j15), (10, .bool x10j15), (11, .int .i64 x11j15), (12, sq e_SII x12j15), (13, .int .i64 x13j15), (14, .int .i64 x14j15), (15, .int .i64 x15j15), (16, .int .i64 x16j15), (17, .int .i64 x17j15), (18, .int .i64 x18j15), (19, .str x19j15), (20, .int .i64 0), (21, sq e_SII r16)] [(5, .box [.int .i64 o5_0j15, .int .i64 o5_1j15])] ⟨Le.eq (by first | rfl | simp), Le.eq (by first | rfl | simp), Le.eq (by first | rfl | simp), Le.eq (by first | rfl | simp), Le.eq (by first | rfl | simp), Le.eq (by first | rfl | simp), Le.eq (by first | rfl | simp), Le.eq (by first | rfl | simp), Le.eq (by first | rfl | simp), Le.eq (by first | rfl | simp), Le.eq (by first | rfl | simp), Le.eq (by first | rfl | simp), Le.eq (by first | rfl | simp), Le.eq (by first | rfl | simp), Le.eq (by first | rfl | simp), trivial⟩ ⟨⟨_, rfl, LeO.refl _⟩, trivial⟩ rfl (dom0 rfl) ?_
        exact ih.2.1 x6j15 x9j15 x10j15 x11j15 x12j15 x13j15 x14j15 x15j15 x16j15 x17j15 x18j15 x19j15 o5_0j15 o5_1j15 r16 
      · refine RT.goto rfl ?_
        refine RS.slot 21 (sq e_SII ([] : List (ByteArray × Int × Int))) (Le.nil _ _) ?_
        refine RS.weak [(5, .ref 5 0 0 0 2), (6, sq e_IS x6j15), (9, .str x9j15), (10, .bool x10j15), (11, .int .i64 x11j15), (12, sq e_SII x12j15), (13, .int .i64 x13j15), (14, .int .i64 x14j15), (15, .int .i64 x15j15), (16, .int .i64 x16j15), (17, .int .i64 x17j15), (18, .int .i64 x18j15), (19, .str x19j15), (20, .int .i64 0), (21, sq e_SII ([] : List (ByteArray × Int × Int)))] [(5, .box [.int .i64 o5_0j15, .int .i64 o5_1j15])] ⟨Le.eq (by first | rfl | simp), Le.eq (by first | rfl | simp), Le.eq (by first | rfl | simp), Le.eq (by first | rfl | simp), Le.eq (by first | rfl | simp), Le.eq (by first | rfl | simp), Le.eq (by first | rfl | simp), Le.eq (by first | rfl | simp), Le.eq (by first | rfl | simp), Le.eq (by first | rfl | simp), Le.eq (by first | rfl | simp), Le.eq (by first | rfl | simp), Le.eq (by first | rfl | simp), Le.eq (by first | rfl | simp), Le.eq (by first | rfl | simp), trivial⟩ ⟨⟨_, rfl, LeO.refl _⟩, trivial⟩ rfl (dom0 rfl) ?_
        exact ih.2.1 x6j15 x9j15 x10j15 x11j15 x12j15 x13j15 x14j15 x15j15 x16j15 x17j15 x18j15 x19j15 o5_0j15 o5_1j15 ([] : List (ByteArray × Int × Int)) 
theorem pilelaw1_ShiftsTold.ok (k : Nat) (l0 : List Int) (r : Bool) (h : pilelaw1_ShiftsTold.f k l0 = some r) : Ct Tryd.prog B 3 [sq eI l0] (ofL []) (.bool r) (ofL []) := by
  refine Ct.of (Y := (fam Tryd.f3 [15, 17, 19] [] [] (fun r : Bool => .bool r) (fun r => []))) Tryd.func3 rfl Tryd.call3 rfl rfl ?_ r h
  unfold pilelaw1_ShiftsTold.f
  refine RS.go ?_
  refine RT.call rfl (fun _ h => pilemake_Stream_TimesOf.ok k l0 0 _ h) (fun i => bif Nat.beq i 100000 then 24 else i) (LeL.eq rfl) ⟨⟨_, rfl, LeO.refl _⟩, trivial⟩ (fun _ => rfl) (fun r1 => ?_)
  refine RS.go ?_
  refine RT.call rfl (fun _ h => pilemake_Stream_Shifts.ok k r1.2.2.2.1 r1.2.2.2.2 _ h) (fun i => bif Nat.beq i 100000 then 24 else i) (LeL.eq rfl) ⟨⟨_, rfl, LeO.refl _⟩, trivial⟩ (fun _ => rfl) (fun r2 => ?_)
  refine RS.go ?_
  refine RT.goto rfl ?_
  refine RS.slot 33 (sq eI [0, 500, 1000000, 5000000, (-1)]) (Le.lit (E := eI) (l := [0, 500, 1000000, 5000000, (-1)]) (cells_of rfl)) ?_
  refine RS.go ?_
  refine RT.call rfl (fun _ h => pilemake_Stream_Pick.ok k r2.2.1 r2.2.2 [0, 500, 1000000, 5000000, (-1)] _ h) (fun i => bif Nat.beq i 100000 then 24 else i) (LeL.eq rfl) ⟨⟨_, rfl, LeO.refl _⟩, trivial⟩ (fun _ => rfl) (fun r3 => ?_)
  refine RS.go ?_
  refine RT.call0 rfl (fun _ h => pileref1_ShiftsFault.ok k r2.1 _ h) (LeL.eq rfl) (fun _ => rfl) (fun r4 => ?_)
  refine RS.go ?_
  refine RT.call0 rfl (fun _ h => rate_CheckShifts.ok k r2.1 _ h) (LeL.eq rfl) (fun _ => rfl) (fun r5 => ?_)
  refine RS.go ?_
  refine RT.brN rfl (fun c30 => ?_) (fun c30 => ?_)
  · refine RT.call0 rfl (fun _ h => rate_Who.ok k r2.1 r3.1 _ h) (LeL.eq rfl) (fun _ => rfl) (fun r6 => ?_)
    refine RS.go ?_
    refine RT.call0 rfl (fun _ h => rate_Counts.ok k r1.1 r1.2.1 r1.2.2.1 r2.1 _ h) (LeL.eq rfl) (fun _ => rfl) (fun r7 => ?_)
    refine RS.go ?_
    refine RT.call0 rfl (fun _ h => rate_Fairest.ok k r2.1 r1.2.1 r1.2.2.1 _ h) (LeL.eq rfl) (fun _ => rfl) (fun r8 => ?_)
    refine RS.go ?_
    refine RT.goto rfl ?_
    refine RS.draw rfl ?_
    refine RD.call (CR := []) (CW := (fun r => [])) rfl (fun _ h => pileref1_MomentFault.ok r3.1 _ h) (fun i => i) trivial (fun _ => rfl) ⟨_, _, _, _, rfl, rfl, rfl⟩ (LeL.eq rfl) trivial (fun _ => rfl) (fun r9 => ?_)
    refine RD.call (CR := []) (CW := (fun r => [])) rfl (fun _ h => cmp_Or_api_Errno.ok k [r4, r9] _ h) (fun i => i) trivial (fun _ => rfl) ⟨_, _, _, _, rfl, rfl, rfl⟩ (LeL.cons (Le.lit (E := eI) (l := [r4, r9]) (cells_of rfl)) (LeL.nil)) trivial (fun _ => rfl) (fun r10 => ?_)
    refine RD.call (CR := []) (CW := (fun r => [])) rfl (fun _ h => pileref1_TimesFault.ok k r1.1 r1.2.1 r1.2.2.1 _ h) (fun i => i) trivial (fun _ => rfl) ⟨_, _, _, _, rfl, rfl, rfl⟩ (LeL.eq rfl) trivial (fun _ => rfl) (fun r11 => ?_)
    refine RD.call (CR := []) (CW := (fun r => [])) rfl (fun _ h => cmp_Or_api_Errno.ok k [r11, r4] _ h) (fun i => i) trivial (fun _ => rfl) ⟨_, _, _, _, rfl, rfl, rfl⟩ (LeL.cons (Le.lit (E := eI) (l := [r11, r4]) (cells_of rfl)) (LeL.nil)) trivial (fun _ => rfl) (fun r12 => ?_)
    refine RD.call (CR := []) (CW := (fun r => [])) rfl (fun _ h => pileref1_TimesFault.ok k [] r1.2.1 r1.2.2.1 _ h) (fun i => i) trivial (fun _ => rfl) ⟨_, _, _, _, rfl, rfl, rfl⟩ (LeL.cons (Le.nil _ _) (LeL.cons (Le.refl _) (LeL.nil))) trivial (fun _ => rfl) (fun r13 => ?_)
    refine RD.call (CR := []) (CW := (fun r => [])) rfl (fun _ h => cmp_Or_api_Errno.ok k [r4, r13] _ h) (fun i => i) trivial (fun _ => rfl) ⟨_, _, _, _, rfl, rfl, rfl⟩ (LeL.cons (Le.lit (E := eI) (l := [r4, r13]) (cells_of rfl)) (LeL.nil)) trivial (fun _ => rfl) (fun r14 => ?_)
    refine RD.fin pilelaw1_ShiftsTold.k0 pilelaw1_ShiftsTold.k1 rfl rfl (by decide +kernel) ?_
    refine RS.go ?_
    refine RT.br rfl (fun c29 => ?_) (fun c29 => ?_)
    · refine RT.call0 rfl (fun _ h => pileref1_WhoAt.ok k r2.1 r3.1 _ h) (LeL.eq rfl) (fun _ => rfl) (fun r15 => ?_)
      refine RS.go ?_
      refine RT.goto rfl ?_
      refine RS.weak [(4, sq eI r1.1), (5, .ref 5 0 0 0 2), (6, sq e_IS r2.1), (9, .str r6.1), (10, .bool r6.2.1), (11, .int .i64 r6.2.2), (12, sq e_SII r7.1), (13, .int .i64 r7.2), (14, .int .i64 r8.1), (15, .int .i64 r8.2), (16, .int .i64 r10), (17, .int .i64 r12), (18, .int .i64 r14), (19, .str r15), (20, .int .i64 0), (21, .v (.slice Option.none 0 0))] [(5, .box [.int .i64 r1.2.1, .int .i64 r1.2.2.1])] ⟨Le.eq (by first | rfl | simp), Le.eq (by first | rfl | simp), Le.eq (by first | rfl | simp), Le.eq (by first | rfl | simp), Le.eq (by first | rfl | simp), Le.eq (by first | rfl | simp), Le.eq (by first | rfl | simp), Le.eq (by first | rfl | simp), Le.eq (by first | rfl | simp), Le.eq (by first | rfl | simp), Le.eq (by first | rfl | simp), Le.eq (by first | rfl | simp), Le.eq (by first | rfl | simp), Le.eq (by first | rfl | simp), Le.eq (by first | rfl | simp), Le.eq (by first | rfl | simp), trivial⟩ ⟨⟨_, rfl, LeO.refl _⟩, trivial⟩ rfl (dom0 rfl) ?_
      exact (pilelaw1_ShiftsTold.loops k).2.2 r1.1 r2.1 r6.1 r6.2.1 r6.2.2 r7.1 r7.2 r8.1 r8.2 r10 r12 r14 r15 r1.2.1 r1.2.2.1 
    · refine RT.goto rfl ?_
      refine RS.weak [(4, sq eI r1.1), (5, .ref 5 0 0 0 2), (6, sq e_IS r2.1), (9, .str r6.1), (10, .bool r6.2.1), (11, .int .i64 r6.2.2), (12, sq e_SII r7.1), (13, .int .i64 r7.2), (14, .int .i64 r8.1), (15, .int .i64 r8.2), (16, .int .i64 r10), (17, .int .i64 r12), (18, .int .i64 r14), (19, .str (⟨#[]⟩ : ByteArray)), (20, .int .i64 0), (21, .v (.slice Option.none 0 0))] [(5, .box [.int .i64 r1.2.1, .int .i64 r1.2.2.1])] ⟨Le.eq (by first | rfl | simp), Le.eq (by first | rfl | simp), Le.eq (by first | rfl | simp), Le.eq (by first | rfl | simp), Le.eq (by first | rfl | simp), Le.eq (by first | rfl | simp), Le.eq (by first | rfl | simp), Le.eq (by first | rfl | simp), Le.eq (by first | rfl | simp), Le.eq (by first | rfl | simp), Le.eq (by first | rfl | simp), Le.eq (by first | rfl | simp), Le.eq (by first | rfl | simp), Le.eq (by first | rfl | simp), Le.eq (by first | rfl | simp), Le.eq (by first | rfl | simp), trivial⟩ ⟨⟨_, rfl, LeO.refl _⟩, trivial⟩ rfl (dom0 rfl) ?_
      exact (pilelaw1_ShiftsTold.loops k).2.2 r1.1 r2.1 r6.1 r6.2.1 r6.2.2 r7.1 r7.2 r8.1 r8.2 r10 r12 r14 (⟨#[]⟩ : ByteArray) r1.2.1 r1.2.2.1 
  · exact RT.done rfl rfl (Le.refl _) trivial rfl (dom0 rfl)
end Go.EV
