/- Printed by a program of this session: a Lean function for each function that the law reaches, and that the code comes to it. -/
import Derived.Test.YtmcaongkodmbjaaEvS
set_option linter.unusedVariables false
set_option linter.unusedSimpArgs false
namespace Go.EV
open Go Go.Proofs Go.RowKit
set_option maxHeartbeats 4000000
set_option maxRecDepth 100000
set_option linter.unusedVariables false
def e_L.c : List Int → Nat → AV
  | x, _ => sq eI x
def e_L : Enc (List Int) := ⟨1, [], e_L.c⟩
def e_II.c : (Int × Int) → Nat → AV
  | x, 0 => .int .i64 x.1
  | x, _ => .int .i64 x.2
def e_II : Enc (Int × Int) := ⟨2, (0, 0), e_II.c⟩
/-! ### pilemake_Below: function 73 -/
def pilemake_Below.j6 : Nat → Int → Option (Int)
  | 0, _ => Option.none
  | k + 1, x0j6 => Option.some x0j6
def pilemake_Below.f (k : Nat) (a0 : Int) (a1 : Int) : Option (Int) := (if a1 < 1 then Option.some 0 else (if a1 = 0 then Option.none else (if Int.tmod a0 a1 < 0 then pilemake_Below.j6 k (wrap64 ((Int.tmod a0 a1) + a1)) else pilemake_Below.j6 k (Int.tmod a0 a1))))
theorem pilemake_Below.loops : ∀ k, (∀ (x0j6 : Int), RS (fam Try.f73 [6] [] [] (fun r : Int => .int .i64 r) (fun r => [])) (Func.reg Try.f73 6) ⟨ofT [(0, .int .i64 x0j6)], ofL []⟩ (pilemake_Below.j6 k x0j6))
  | 0 => by intro _; simp only [pilemake_Below.j6]; exact RS.none
  | k + 1 => by
    have ih := pilemake_Below.loops k
    · intro x0j6
      simp only [pilemake_Below.j6]
      refine RS.region ?_
      refine RS.go ?_
      exact RT.done rfl rfl (Le.refl _) trivial rfl (dom0 rfl)
theorem pilemake_Below.ok (k : Nat) (a0 : Int) (a1 : Int) (r : Int) (h : pilemake_Below.f k a0 a1 = some r) : Ct Try.prog B 73 [.int .i64 a0, .int .i64 a1] (ofL []) (.int .i64 r) (ofL []) := by
  refine Ct.of (Y := (fam Try.f73 [6] [] [] (fun r : Int => .int .i64 r) (fun r => []))) Try.func73 rfl Try.call73 rfl rfl ?_ r h
  unfold pilemake_Below.f
  refine RS.go ?_
  refine RT.br rfl (fun c3 => ?_) (fun c3 => ?_)
  · exact RT.done rfl rfl (Le.refl _) trivial rfl (dom0 rfl)
  · refine RT.br rfl (fun _ => RT.none) (fun c2 => ?_)
    refine RT.br rfl (fun c1 => ?_) (fun c1 => ?_)
    · refine RT.goto rfl ?_
      refine RS.weak [(0, .int .i64 (wrap64 ((Int.tmod a0 a1) + a1)))] [] ⟨Le.eq (by first | rfl | simp), trivial⟩ trivial rfl (dom0 rfl) ?_
      exact pilemake_Below.loops k (wrap64 ((Int.tmod a0 a1) + a1)) 
    · refine RT.goto rfl ?_
      refine RS.weak [(0, .int .i64 (Int.tmod a0 a1))] [] ⟨Le.eq (by first | rfl | simp), trivial⟩ trivial rfl (dom0 rfl) ?_
      exact pilemake_Below.loops k (Int.tmod a0 a1) 
/-! ### pilemake_Stream_Next: function 38 -/
def pilemake_Stream_Next.k0 : List DK := [⟨[48], [], [6], []⟩, ⟨[42, 47], [], [48], []⟩, ⟨[46], [], [47], []⟩, ⟨[45], [100000], [46], []⟩, ⟨[44], [100000], [45], []⟩, ⟨[43], [100000], [44], []⟩, ⟨[0], [], [43], []⟩, ⟨[41], [], [42], []⟩, ⟨[40], [100000], [41], []⟩, ⟨[39], [100000], [40], []⟩, ⟨[38], [100000], [39], []⟩, ⟨[0], [], [38], []⟩]
def pilemake_Stream_Next.k1 : List Nat := [0, 1, 3, 7, 15, 0, 32, 96, 224, 480, 1023, 2047]
def pilemake_Stream_Next.k2 : List DK := [⟨[37], [], [5], []⟩, ⟨[31, 36], [], [37], []⟩, ⟨[35], [], [36], []⟩, ⟨[34], [100000], [35], []⟩, ⟨[33], [100000], [34], []⟩, ⟨[32], [100000], [33], []⟩, ⟨[0], [], [32], []⟩, ⟨[30], [], [31], []⟩, ⟨[29], [100000], [30], []⟩, ⟨[28], [100000], [29], []⟩, ⟨[27], [100000], [28], []⟩, ⟨[0], [], [27], []⟩]
def pilemake_Stream_Next.f (k : Nat) (p0_0 : List Int) (p0_1 : Int) (a1 : Int) : Option (Int × (List Int) × Int) := (if (p0_0.length : Int) = 0 then ((pilemake_Below.f k (wrap64 ((wrap64 (p0_1 + 1)) * 7919)) a1).bind fun r1 => Option.some (r1, p0_0, wrap64 (p0_1 + 1))) else (if (p0_0.length : Int) = 0 then Option.none else (if (p0_0.length : Int) = 0 then Option.none else (if 0 ≤ Int.tmod (wrap64 ((wrap64 (p0_1 + 1)) - 1)) (p0_0.length : Int) then (if Int.tmod (wrap64 ((wrap64 (p0_1 + 1)) - 1)) (p0_0.length : Int) < (p0_0.length : Int) then ((pilemake_Below.f k (rd p0_0 (Int.tmod (wrap64 ((wrap64 (p0_1 + 1)) - 1)) (p0_0.length : Int))) 1073741824).bind fun r4 => ((pilemake_Below.f k (wrap64 (r4 + (wrap64 ((wrap64 (Int.tdiv (wrap64 ((wrap64 (p0_1 + 1)) - 1)) (p0_0.length : Int))) * (wrap64 (7919 + (Int.tmod (wrap64 ((wrap64 (p0_1 + 1)) - 1)) (p0_0.length : Int)))))))) a1).bind fun r5 => Option.some (r5, p0_0, wrap64 (p0_1 + 1)))) else Option.none) else Option.none))))
theorem pilemake_Stream_Next.ok (k : Nat) (p0_0 : List Int) (p0_1 : Int) (a1 : Int) (r : Int × (List Int) × Int) (h : pilemake_Stream_Next.f k p0_0 p0_1 a1 = some r) : Ct Try.prog B 38 [.ref 100000 0 0 0 2, .int .i64 a1] (ofL [(100000, .box [sq eI p0_0, .int .i64 p0_1])]) (.int .i64 r.1) (ofL [(100000, .box [sq eI r.2.1, .int .i64 r.2.2])]) := by
  refine Ct.of (Y := (fam Try.f38 [] [] [(100000, .box [sq eI p0_0, .int .i64 p0_1])] (fun r : Int × (List Int) × Int => .int .i64 r.1) (fun r => [(100000, .box [sq eI r.2.1, .int .i64 r.2.2])]))) Try.func38 rfl Try.call38 rfl rfl ?_ r h
  unfold pilemake_Stream_Next.f
  refine RS.go ?_
  refine RT.br rfl (fun c8 => ?_) (fun c8 => ?_)
  · refine RT.call0 rfl (fun _ h => pilemake_Below.ok k (wrap64 ((wrap64 (p0_1 + 1)) * 7919)) a1 _ h) (LeL.eq rfl) (fun _ => rfl) (fun r1 => ?_)
    refine RS.go ?_
    exact RT.done rfl rfl (Le.refl _) ⟨⟨_, rfl, LeO.refl _⟩, trivial⟩ rfl (dom_of rfl)
  · refine RT.goto rfl ?_
    refine RS.draw rfl ?_
    refine RD.br rfl (fun _ => RD.none) (fun c7 => ?_)
    refine RD.fin pilemake_Stream_Next.k2 pilemake_Stream_Next.k1 rfl rfl (by decide +kernel) ?_
    refine RS.go ?_
    refine RT.goto rfl ?_
    refine RS.draw rfl ?_
    refine RD.br rfl (fun _ => RD.none) (fun c6 => ?_)
    refine RD.fin pilemake_Stream_Next.k0 pilemake_Stream_Next.k1 rfl rfl (by decide +kernel) ?_
    refine RS.go ?_
    refine RT.br rfl (fun c2 => ?_) (fun c2 => RT.none)
    refine RT.br rfl (fun c3 => ?_) (fun c3 => RT.none)
    refine RT.call0 rfl (fun _ h => pilemake_Below.ok k (rd p0_0 (Int.tmod (wrap64 ((wrap64 (p0_1 + 1)) - 1)) (p0_0.length : Int))) 1073741824 _ h) (LeL.eq rfl) (fun _ => rfl) (fun r4 => ?_)
    refine RS.go ?_
    refine RT.call0 rfl (fun _ h => pilemake_Below.ok k (wrap64 (r4 + (wrap64 ((wrap64 (Int.tdiv (wrap64 ((wrap64 (p0_1 + 1)) - 1)) (p0_0.length : Int))) * (wrap64 (7919 + (Int.tmod (wrap64 ((wrap64 (p0_1 + 1)) - 1)) (p0_0.length : Int)))))))) a1 _ h) (LeL.eq rfl) (fun _ => rfl) (fun r5 => ?_)
    refine RS.go ?_
    exact RT.done rfl rfl (Le.refl _) ⟨⟨_, rfl, LeO.refl _⟩, trivial⟩ rfl (dom_of rfl)
/-! ### pilemake_Stream_Pick: function 6 -/
def pilemake_Stream_Pick.f (k : Nat) (p0_0 : List Int) (p0_1 : Int) (l1 : List Int) : Option (Int × (List Int) × Int) := ((pilemake_Stream_Next.f k p0_0 p0_1 (l1.length : Int)).bind fun r1 => (if 0 ≤ r1.1 then (if r1.1 < (l1.length : Int) then Option.some ((rd l1 r1.1), r1.2.1, r1.2.2) else Option.none) else Option.none))
theorem pilemake_Stream_Pick.ok (k : Nat) (p0_0 : List Int) (p0_1 : Int) (l1 : List Int) (r : Int × (List Int) × Int) (h : pilemake_Stream_Pick.f k p0_0 p0_1 l1 = some r) : Ct Try.prog B 6 [.ref 100000 0 0 0 2, sq eI l1] (ofL [(100000, .box [sq eI p0_0, .int .i64 p0_1])]) (.int .i64 r.1) (ofL [(100000, .box [sq eI r.2.1, .int .i64 r.2.2])]) := by
  refine Ct.of (Y := (fam Try.f6 [] [] [(100000, .box [sq eI p0_0, .int .i64 p0_1])] (fun r : Int × (List Int) × Int => .int .i64 r.1) (fun r => [(100000, .box [sq eI r.2.1, .int .i64 r.2.2])]))) Try.func6 rfl Try.call6 rfl rfl ?_ r h
  unfold pilemake_Stream_Pick.f
  refine RS.go ?_
  refine RT.call rfl (fun _ h => pilemake_Stream_Next.ok k p0_0 p0_1 (l1.length : Int) _ h) (fun i => bif Nat.beq i 100000 then 100000 else i) (LeL.eq rfl) ⟨⟨_, rfl, LeO.refl _⟩, trivial⟩ (fun _ => rfl) (fun r1 => ?_)
  refine RS.go ?_
  refine RT.br rfl (fun c2 => ?_) (fun c2 => RT.none)
  refine RT.br rfl (fun c3 => ?_) (fun c3 => RT.none)
  exact RT.done rfl rfl (Le.refl _) ⟨⟨_, rfl, LeO.refl _⟩, trivial⟩ rfl (dom_of rfl)
/-! ### pilemake_Stream_Range: function 37 -/
def pilemake_Stream_Range.f (k : Nat) (p0_0 : List Int) (p0_1 : Int) (a1 : Int) (a2 : Int) : Option (Int × (List Int) × Int) := (if a2 < a1 then Option.some (a1, p0_0, p0_1) else ((pilemake_Stream_Next.f k p0_0 p0_1 (wrap64 ((wrap64 (a2 - a1)) + 1))).bind fun r1 => Option.some (wrap64 (a1 + r1.1), r1.2.1, r1.2.2)))
theorem pilemake_Stream_Range.ok (k : Nat) (p0_0 : List Int) (p0_1 : Int) (a1 : Int) (a2 : Int) (r : Int × (List Int) × Int) (h : pilemake_Stream_Range.f k p0_0 p0_1 a1 a2 = some r) : Ct Try.prog B 37 [.ref 100000 0 0 0 2, .int .i64 a1, .int .i64 a2] (ofL [(100000, .box [sq eI p0_0, .int .i64 p0_1])]) (.int .i64 r.1) (ofL [(100000, .box [sq eI r.2.1, .int .i64 r.2.2])]) := by
  refine Ct.of (Y := (fam Try.f37 [] [] [(100000, .box [sq eI p0_0, .int .i64 p0_1])] (fun r : Int × (List Int) × Int => .int .i64 r.1) (fun r => [(100000, .box [sq eI r.2.1, .int .i64 r.2.2])]))) Try.func37 rfl Try.call37 rfl rfl ?_ r h
  unfold pilemake_Stream_Range.f
  refine RS.go ?_
  refine RT.br rfl (fun c2 => ?_) (fun c2 => ?_)
  · exact RT.done rfl rfl (Le.refl _) ⟨⟨_, rfl, LeO.refl _⟩, trivial⟩ rfl (dom_of rfl)
  · refine RT.call rfl (fun _ h => pilemake_Stream_Next.ok k p0_0 p0_1 (wrap64 ((wrap64 (a2 - a1)) + 1)) _ h) (fun i => bif Nat.beq i 100000 then 100000 else i) (LeL.eq rfl) ⟨⟨_, rfl, LeO.refl _⟩, trivial⟩ (fun _ => rfl) (fun r1 => ?_)
    refine RS.go ?_
    exact RT.done rfl rfl (Le.refl _) ⟨⟨_, rfl, LeO.refl _⟩, trivial⟩ rfl (dom_of rfl)
/-! ### pilemake_Stream_Flip: function 7 -/
def pilemake_Stream_Flip.f (k : Nat) (p0_0 : List Int) (p0_1 : Int) (a1 : Int) : Option (Bool × (List Int) × Int) := ((pilemake_Stream_Next.f k p0_0 p0_1 a1).bind fun r1 => Option.some ((decide (r1.1 = 0)), r1.2.1, r1.2.2))
theorem pilemake_Stream_Flip.ok (k : Nat) (p0_0 : List Int) (p0_1 : Int) (a1 : Int) (r : Bool × (List Int) × Int) (h : pilemake_Stream_Flip.f k p0_0 p0_1 a1 = some r) : Ct Try.prog B 7 [.ref 100000 0 0 0 2, .int .i64 a1] (ofL [(100000, .box [sq eI p0_0, .int .i64 p0_1])]) (.bool r.1) (ofL [(100000, .box [sq eI r.2.1, .int .i64 r.2.2])]) := by
  refine Ct.of (Y := (fam Try.f7 [] [] [(100000, .box [sq eI p0_0, .int .i64 p0_1])] (fun r : Bool × (List Int) × Int => .bool r.1) (fun r => [(100000, .box [sq eI r.2.1, .int .i64 r.2.2])]))) Try.func7 rfl Try.call7 rfl rfl ?_ r h
  unfold pilemake_Stream_Flip.f
  refine RS.go ?_
  refine RT.call rfl (fun _ h => pilemake_Stream_Next.ok k p0_0 p0_1 a1 _ h) (fun i => bif Nat.beq i 100000 then 100000 else i) (LeL.eq rfl) ⟨⟨_, rfl, LeO.refl _⟩, trivial⟩ (fun _ => rfl) (fun r1 => ?_)
  refine RS.go ?_
  exact RT.done rfl rfl (Le.refl _) ⟨⟨_, rfl, LeO.refl _⟩, trivial⟩ rfl (dom_of rfl)
/-! ### pilemake_Stream_TimesOf: function 5 -/
def pilemake_Stream_TimesOf.k0 : List DK := [⟨[3, 69], [3], [], [3]⟩, ⟨[68], [], [2], []⟩, ⟨[4], [4], [69], []⟩, ⟨[5], [], [68], []⟩]
def pilemake_Stream_TimesOf.k1 : List Nat := [0, 0, 1, 7]
def pilemake_Stream_TimesOf.k2 : List DK := [⟨[33, 42], [], [43], []⟩, ⟨[33, 39, 41], [], [42], []⟩, ⟨[33, 40], [4], [41], []⟩, ⟨[33, 4], [4], [40], []⟩, ⟨[33, 38], [5], [39], []⟩, ⟨[33, 34, 37], [5], [38], []⟩, ⟨[33, 36], [], [37], []⟩, ⟨[33, 35], [5], [36], []⟩, ⟨[33, 5], [], [35], []⟩, ⟨[33, 5], [], [34], []⟩, ⟨[32], [], [33], []⟩, ⟨[31], [], [32], []⟩, ⟨[30], [5], [31], []⟩, ⟨[5], [], [30], []⟩]
def pilemake_Stream_TimesOf.k3 : List Nat := [0, 1, 3, 7, 15, 15, 47, 111, 255, 511, 15, 1039, 4095, 8191]
def pilemake_Stream_TimesOf.k4 : List DK := [⟨[33, 42], [], [43], []⟩, ⟨[33], [], [42], []⟩, ⟨[33], [], [41], []⟩, ⟨[33], [], [40], []⟩, ⟨[33], [], [39], []⟩, ⟨[33], [], [38], []⟩, ⟨[33], [], [37], []⟩, ⟨[33], [], [36], []⟩, ⟨[33], [], [35], []⟩, ⟨[33], [], [34], []⟩, ⟨[32], [], [33], []⟩, ⟨[31], [], [32], []⟩, ⟨[30], [5], [31], []⟩, ⟨[5], [], [30], []⟩]
mutual
def pilemake_Stream_TimesOf.j14 : Nat → Int → Int → List Int → List Int → List Int → Int → Option ((List Int) × (List Int) × Int × Int × (List Int) × Int)
  | 0, _, _, _, _, _, _ => Option.none
  | k + 1, o4_0, o4_1j14, t5j14, o5j14, o100000_0j14, o100000_1j14 => Option.some (o5j14, t5j14, o4_0, o4_1j14, o100000_0j14, o100000_1j14)
def pilemake_Stream_TimesOf.l1 : Nat → Int → Int → Int → List Int → Int → List Int → List Int → Option ((List Int) × (List Int) × Int × Int × (List Int) × Int)
  | 0, _, _, _, _, _, _, _ => Option.none
  | k + 1, x6, o4_0, o4_1, o100000_0, o100000_1, t5b, o5b => (if (o5b.length : Int) > 0 then (if 0 ≤ wrap64 ((o5b.length : Int) - 1) then (if wrap64 ((o5b.length : Int) - 1) < (o5b.length : Int) then (if (rd o5b (wrap64 ((o5b.length : Int) - 1))) ≥ o4_1 then (if 0 ≤ wrap64 ((o5b.length : Int) - 1) then (if wrap64 ((o5b.length : Int) - 1) ≤ (o5b.length : Int) then pilemake_Stream_TimesOf.l1 k x6 o4_0 o4_1 o100000_0 o100000_1 ((o5b.drop (wrap64 ((o5b.length : Int) - 1)).toNat) ++ t5b) (o5b.take (wrap64 ((o5b.length : Int) - 1)).toNat) else Option.none) else Option.none) else ((pilemake_Stream_Flip.f k o100000_0 o100000_1 15).bind fun r10 => (if r10.1 = true then ((pilemake_Stream_Pick.f k r10.2.1 r10.2.2 [o4_1, o4_0, 345686400001]).bind fun r11 => ((pilemake_Stream_Pick.f k r11.2.1 r11.2.2 [0, r11.1, x6]).bind fun r12 => (if o5b.length + [r12.1].length ≤ 549755813888 then pilemake_Stream_TimesOf.j14 k o4_0 r11.1 (t5b.drop [r12.1].length) (o5b ++ [r12.1]) r12.2.1 r12.2.2 else Option.none))) else pilemake_Stream_TimesOf.j14 k o4_0 o4_1 t5b o5b r10.2.1 r10.2.2))) else Option.none) else Option.none) else ((pilemake_Stream_Flip.f k o100000_0 o100000_1 15).bind fun r15 => (if r15.1 = true then ((pilemake_Stream_Pick.f k r15.2.1 r15.2.2 [o4_1, o4_0, 345686400001]).bind fun r16 => ((pilemake_Stream_Pick.f k r16.2.1 r16.2.2 [0, r16.1, x6]).bind fun r17 => (if o5b.length + [r17.1].length ≤ 549755813888 then pilemake_Stream_TimesOf.j14 k o4_0 r16.1 (t5b.drop [r17.1].length) (o5b ++ [r17.1]) r17.2.1 r17.2.2 else Option.none))) else pilemake_Stream_TimesOf.j14 k o4_0 o4_1 t5b o5b r15.2.1 r15.2.2)))
def pilemake_Stream_TimesOf.l0 : Nat → Int → Int → Int → Int → Int → List Int → List Int → Int → Option ((List Int) × (List Int) × Int × Int × (List Int) × Int)
  | 0, _, _, _, _, _, _, _, _ => Option.none
  | k + 1, x6, x17, x18, o4_0, o4_1, o5, o100000_0, o100000_1 => (if x18 < x17 then ((pilemake_Stream_Pick.f k o100000_0 o100000_1 [0, 1, 1000, 60000, 300000, 1800000]).bind fun r4 => (if o5.length + 1 ≤ 549755813888 then pilemake_Stream_TimesOf.l0 k (wrap64 (x6 + r4.1)) x17 (wrap64 (x18 + 1)) o4_0 o4_1 (o5 ++ [wrap64 (x6 + r4.1)]) r4.2.1 r4.2.2 else Option.none)) else pilemake_Stream_TimesOf.l1 k x6 o4_0 o4_1 o100000_0 o100000_1 ([] : List Int) o5)
end
def pilemake_Stream_TimesOf.f (k : Nat) (p0_0 : List Int) (p0_1 : Int) : Option ((List Int) × (List Int) × Int × Int × (List Int) × Int) := ((pilemake_Stream_Pick.f k p0_0 p0_1 [0, 1000]).bind fun r1 => ((pilemake_Stream_Pick.f k r1.2.1 r1.2.2 [3600000, 5000000, 9000000, 30000000]).bind fun r2 => ((pilemake_Stream_Range.f k r2.2.1 r2.2.2 0 12).bind fun r3 => pilemake_Stream_TimesOf.l0 k r1.1 r3.1 0 r1.1 r2.1 [] r3.2.1 r3.2.2)))
theorem pilemake_Stream_TimesOf.loops (p0_0 : List Int) (p0_1 : Int) : ∀ k, (∀ (o4_0 : Int) (o4_1j14 : Int) (t5j14 : List Int) (o5j14 : List Int) (o100000_0j14 : List Int) (o100000_1j14 : Int), RS (fam Try.f5 [14, 1000048] [] [(100000, .box [sq eI p0_0, .int .i64 p0_1])] (fun r : (List Int) × (List Int) × Int × Int × (List Int) × Int => .tup [.osl 5 eI.w 0 r.1.length (r.1 ++ r.2.1).length, .agg [.int .i64 r.2.2.1, .int .i64 r.2.2.2.1]]) (fun r => [(100000, .box [sq eI r.2.2.2.2.1, .int .i64 r.2.2.2.2.2]), (5, bufE eI (r.1 ++ r.2.1))])) (Func.reg Try.f5 14) ⟨ofT [(3, .ref 3 0 0 0 2), (4, .ref 4 0 0 0 2), (5, .osl 5 eI.w 0 o5j14.length (o5j14 ++ t5j14).length)], ofL [(3, .box [.int .i64 0, .int .i64 0]), (4, .box [.int .i64 o4_0, .int .i64 o4_1j14]), (5, bufE eI (o5j14 ++ t5j14)), (100000, .box [sq eI o100000_0j14, .int .i64 o100000_1j14])]⟩ (pilemake_Stream_TimesOf.j14 k o4_0 o4_1j14 t5j14 o5j14 o100000_0j14 o100000_1j14)) ∧ (∀ (x6 : Int) (o4_0 : Int) (o4_1 : Int) (o100000_0 : List Int) (o100000_1 : Int) (t5b : List Int) (o5b : List Int), RS (fam Try.f5 [14, 1000048] [] [(100000, .box [sq eI p0_0, .int .i64 p0_1])] (fun r : (List Int) × (List Int) × Int × Int × (List Int) × Int => .tup [.osl 5 eI.w 0 r.1.length (r.1 ++ r.2.1).length, .agg [.int .i64 r.2.2.1, .int .i64 r.2.2.2.1]]) (fun r => [(100000, .box [sq eI r.2.2.2.2.1, .int .i64 r.2.2.2.2.2]), (5, bufE eI (r.1 ++ r.2.1))])) (Func.head Try.f5 1) ⟨ofT [(0, .ref 100000 0 0 0 2), (3, .ref 3 0 0 0 2), (4, .ref 4 0 0 0 2), (5, .osl 5 eI.w 0 o5b.length (o5b ++ t5b).length), (6, .int .i64 x6)], ofL [(3, .box [.int .i64 0, .int .i64 0]), (4, .box [.int .i64 o4_0, .int .i64 o4_1]), (5, bufE eI (o5b ++ t5b)), (100000, .box [sq eI o100000_0, .int .i64 o100000_1])]⟩ (pilemake_Stream_TimesOf.l1 k x6 o4_0 o4_1 o100000_0 o100000_1 t5b o5b)) ∧ (∀ (x6 : Int) (x17 : Int) (x18 : Int) (o4_0 : Int) (o4_1 : Int) (o5 : List Int) (o100000_0 : List Int) (o100000_1 : Int), RS (fam Try.f5 [14, 1000048] [] [(100000, .box [sq eI p0_0, .int .i64 p0_1])] (fun r : (List Int) × (List Int) × Int × Int × (List Int) × Int => .tup [.osl 5 eI.w 0 r.1.length (r.1 ++ r.2.1).length, .agg [.int .i64 r.2.2.1, .int .i64 r.2.2.2.1]]) (fun r => [(100000, .box [sq eI r.2.2.2.2.1, .int .i64 r.2.2.2.2.2]), (5, bufE eI (r.1 ++ r.2.1))])) (Func.head Try.f5 0) ⟨ofT [(0, .ref 100000 0 0 0 2), (3, .ref 3 0 0 0 2), (4, .ref 4 0 0 0 2), (5, .osl 5 eI.w 0 o5.length o5.length), (6, .int .i64 x6), (17, .int .i64 x17), (18, .int .i64 x18)], ofL [(3, .box [.int .i64 0, .int .i64 0]), (4, .box [.int .i64 o4_0, .int .i64 o4_1]), (5, bufE eI o5), (100000, .box [sq eI o100000_0, .int .i64 o100000_1])]⟩ (pilemake_Stream_TimesOf.l0 k x6 x17 x18 o4_0 o4_1 o5 o100000_0 o100000_1))
  | 0 => ⟨by intro _ _ _ _ _ _; simp only [pilemake_Stream_TimesOf.j14]; exact RS.none, by intro _ _ _ _ _ _ _; simp only [pilemake_Stream_TimesOf.l1]; exact RS.none, by intro _ _ _ _ _ _ _ _; simp only [pilemake_Stream_TimesOf.l0]; exact RS.none⟩
  | k + 1 => by
    have ih := pilemake_Stream_TimesOf.loops p0_0 p0_1 k
    refine ⟨?_, ?_, ?_⟩
    · intro o4_0 o4_1j14 t5j14 o5j14 o100000_0j14 o100000_1j14
      simp only [pilemake_Stream_TimesOf.j14]
      refine RS.draw rfl ?_
      refine RD.fin pilemake_Stream_TimesOf.k0 pilemake_Stream_TimesOf.k1 rfl rfl (by decide +kernel) ?_
      refine RS.go ?_
      exact RT.done rfl rfl (Le.tup (LeL.cons (Le.refl _) (LeL.cons (Le.refl _) (LeL.nil)))) ⟨⟨_, rfl, by first | exact LeO.refl _ | exact LeO.room0⟩, ⟨⟨_, rfl, by first | exact LeO.refl _ | exact LeO.room0⟩, trivial⟩⟩ rfl (dom_of rfl)
    · intro x6 o4_0 o4_1 o100000_0 o100000_1 t5b o5b
      simp only [pilemake_Stream_TimesOf.l1]
      refine RS.go ?_
      refine RT.goto rfl ?_
      refine RS.draw rfl ?_
      refine RD.req rfl (by first | exact Nat.zero_add _ | rfl | simp [szf, szOf]) ?_
      refine RD.br rfl (fun c19 => ?_) (fun c19 => ?_)
      · refine RD.brT rfl ?_
        refine RD.brT rfl ?_
        refine RD.req rfl (by first | exact Nat.zero_add _ | rfl | simp [szf, szOf]) ?_
        refine RD.brT rfl ?_
        refine RD.brT rfl ?_
        refine RD.req rfl (by first | exact Nat.zero_add _ | rfl | simp) ?_
        refine RD.br rfl (fun c6 => ?_) (fun c6 => RD.none)
        refine RD.br rfl (fun c7 => ?_) (fun c7 => RD.none)
        refine RD.brT rfl ?_
        refine RD.req rfl ⟨by first | rfl | simp, elt_lt c6 (le_room2 c7)⟩ ?_
        refine RD.brT rfl ?_
        refine RD.brT rfl ?_
        refine RD.brT rfl ?_
        refine RD.brT rfl ?_
        refine RD.fin pilemake_Stream_TimesOf.k2 pilemake_Stream_TimesOf.k3 rfl rfl (by decide +kernel) ?_
        refine RS.go ?_
        refine RT.brC (p := (rd o5b (wrap64 ((o5b.length : Int) - 1))) ≥ o4_1) rfl (pre_cond (E := eI) (l := o5b) (t := t5b) (i := wrap64 ((o5b.length : Int) - 1)) (q := fun x => x ≥ o4_1) c6 c7) (fun c14 => ?_) (fun c14 => ?_)
        · refine RT.req rfl (by first | exact Nat.zero_add _ | rfl | simp [szf, szOf]) ?_
          refine RT.req rfl (by first | exact Nat.zero_add _ | rfl | simp) ?_
          refine RT.br rfl (fun c8 => ?_) (fun c8 => RT.none)
          refine RT.when (fun c9 => ?_)
          refine RT.sure rfl (decide_eq_true (by first | exact c9 | exact le_room c9)) ?_
          refine RT.goto rfl ?_
          refine RS.obj 5 (bufE eI ((o5b.take (wrap64 ((o5b.length : Int) - 1)).toNat) ++ ((o5b.drop (wrap64 ((o5b.length : Int) - 1)).toNat) ++ t5b))) ⟨_, rfl, LeO.cut⟩ ?_
          refine RS.slot 48 (.osl 5 eI.w 0 (o5b.take (wrap64 ((o5b.length : Int) - 1)).toNat).length ((o5b.take (wrap64 ((o5b.length : Int) - 1)).toNat) ++ ((o5b.drop (wrap64 ((o5b.length : Int) - 1)).toNat) ++ t5b)).length) (Le.osl2 rfl rfl (len_take c8 c9) len_cut) ?_
          refine RS.go ?_
          refine RT.goto rfl ?_
          refine RS.weak [(0, .ref 100000 0 0 0 2), (3, .ref 3 0 0 0 2), (4, .ref 4 0 0 0 2), (5, .osl 5 eI.w 0 (o5b.take (wrap64 ((o5b.length : Int) - 1)).toNat).length ((o5b.take (wrap64 ((o5b.length : Int) - 1)).toNat) ++ ((o5b.drop (wrap64 ((o5b.length : Int) - 1)).toNat) ++ t5b)).length), (6, .int .i64 x6)] [(3, .box [.int .i64 0, .int .i64 0]), (4, .box [.int .i64 o4_0, .int .i64 o4_1]), (5, bufE eI ((o5b.take (wrap64 ((o5b.length : Int) - 1)).toNat) ++ ((o5b.drop (wrap64 ((o5b.length : Int) - 1)).toNat) ++ t5b))), (100000, .box [sq eI o100000_0, .int .i64 o100000_1])] ⟨Le.eq (by first | rfl | simp), Le.eq (by first | rfl | simp), Le.eq (by first | rfl | simp), Le.osl2 rfl rfl (by first | rfl | simp) (by first | rfl | simp), Le.eq (by first | rfl | simp), trivial⟩ ⟨⟨_, rfl, LeO.refl _⟩, ⟨_, rfl, LeO.refl _⟩, ⟨_, rfl, by first | exact LeO.refl _ | exact LeO.room0⟩, ⟨_, rfl, LeO.refl _⟩, trivial⟩ rfl (dom_of rfl) ?_
          exact ih.2.1 x6 o4_0 o4_1 o100000_0 o100000_1 ((o5b.drop (wrap64 ((o5b.length : Int) - 1)).toNat) ++ t5b) (o5b.take (wrap64 ((o5b.length : Int) - 1)).toNat) 
        · refine RT.call rfl (fun _ h => pilemake_Stream_Flip.ok k o100000_0 o100000_1 15 _ h) (fun i => bif Nat.beq i 100000 then 100000 else i) (LeL.eq rfl) ⟨⟨_, rfl, LeO.refl _⟩, trivial⟩ (fun _ => rfl) (fun r10 => ?_)
          refine RS.go ?_
          refine RT.brB rfl (fun c13 => ?_) (fun c13 => ?_)
          · refine RT.goto rfl ?_
            refine RS.slot 56 (sq eI [o4_1, o4_0, 345686400001]) (Le.lit (E := eI) (l := [o4_1, o4_0, 345686400001]) (cells_of rfl)) ?_
            refine RS.go ?_
            refine RT.call rfl (fun _ h => pilemake_Stream_Pick.ok k r10.2.1 r10.2.2 [o4_1, o4_0, 345686400001] _ h) (fun i => bif Nat.beq i 100000 then 100000 else i) (LeL.eq rfl) ⟨⟨_, rfl, LeO.refl _⟩, trivial⟩ (fun _ => rfl) (fun r11 => ?_)
            refine RS.go ?_
            refine RT.goto rfl ?_
            refine RS.slot 64 (sq eI [0, r11.1, x6]) (Le.lit (E := eI) (l := [0, r11.1, x6]) (cells_of rfl)) ?_
            refine RS.go ?_
            refine RT.call rfl (fun _ h => pilemake_Stream_Pick.ok k r11.2.1 r11.2.2 [0, r11.1, x6] _ h) (fun i => bif Nat.beq i 100000 then 100000 else i) (LeL.eq rfl) ⟨⟨_, rfl, LeO.refl _⟩, trivial⟩ (fun _ => rfl) (fun r12 => ?_)
            refine RS.go ?_
            refine RT.goto rfl ?_
            refine RS.slot 66 (sq eI [r12.1]) (Le.lit (E := eI) (l := [r12.1]) (cells_of rfl)) ?_
            refine RS.go ?_
            refine RT.req rfl ⟨by first | rfl | simp, by first | rfl | simp⟩ ?_
            refine RT.appD (E := eI) (l := o5b) (t := t5b) (m := [r12.1]) rfl (fun _ _ _ _ => rfl) ?_
            refine RS.go ?_
            refine RT.goto rfl ?_
            refine RS.weak [(3, .ref 3 0 0 0 2), (4, .ref 4 0 0 0 2), (5, .osl 5 eI.w 0 (o5b ++ [r12.1]).length ((o5b ++ [r12.1]) ++ (t5b.drop [r12.1].length)).length)] [(3, .box [.int .i64 0, .int .i64 0]), (4, .box [.int .i64 o4_0, .int .i64 r11.1]), (5, bufE eI ((o5b ++ [r12.1]) ++ (t5b.drop [r12.1].length))), (100000, .box [sq eI r12.2.1, .int .i64 r12.2.2])] ⟨Le.eq (by first | rfl | simp), Le.eq (by first | rfl | simp), Le.osl2 rfl rfl (by first | rfl | simp) (by first | rfl | simp), trivial⟩ ⟨⟨_, rfl, LeO.refl _⟩, ⟨_, rfl, LeO.refl _⟩, ⟨_, rfl, by first | exact LeO.refl _ | exact LeO.room0⟩, ⟨_, rfl, LeO.refl _⟩, trivial⟩ rfl (dom_of rfl) ?_
            exact ih.1 o4_0 r11.1 (t5b.drop [r12.1].length) (o5b ++ [r12.1]) r12.2.1 r12.2.2 
          · refine RT.goto rfl ?_
            refine RS.weak [(3, .ref 3 0 0 0 2), (4, .ref 4 0 0 0 2), (5, .osl 5 eI.w 0 o5b.length (o5b ++ t5b).length)] [(3, .box [.int .i64 0, .int .i64 0]), (4, .box [.int .i64 o4_0, .int .i64 o4_1]), (5, bufE eI (o5b ++ t5b)), (100000, .box [sq eI r10.2.1, .int .i64 r10.2.2])] ⟨Le.eq (by first | rfl | simp), Le.eq (by first | rfl | simp), Le.osl2 rfl rfl (by first | rfl | simp) (by first | rfl | simp), trivial⟩ ⟨⟨_, rfl, LeO.refl _⟩, ⟨_, rfl, LeO.refl _⟩, ⟨_, rfl, by first | exact LeO.refl _ | exact LeO.room0⟩, ⟨_, rfl, LeO.refl _⟩, trivial⟩ rfl (dom_of rfl) ?_
            exact ih.1 o4_0 o4_1 t5b o5b r10.2.1 r10.2.2 
      · refine RD.brF rfl ?_
        refine RD.brF rfl ?_
        refine RD.brF rfl ?_
        refine RD.brF rfl ?_
        refine RD.brF rfl ?_
        refine RD.brF rfl ?_
        refine RD.brF rfl ?_
        refine RD.brF rfl ?_
        refine RD.brF rfl ?_
        refine RD.fin pilemake_Stream_TimesOf.k4 pilemake_Stream_TimesOf.k3 rfl rfl (by decide +kernel) ?_
        refine RS.go ?_
        refine RT.brF rfl ?_
        refine RT.call rfl (fun _ h => pilemake_Stream_Flip.ok k o100000_0 o100000_1 15 _ h) (fun i => bif Nat.beq i 100000 then 100000 else i) (LeL.eq rfl) ⟨⟨_, rfl, LeO.refl _⟩, trivial⟩ (fun _ => rfl) (fun r15 => ?_)
        refine RS.go ?_
        refine RT.brB rfl (fun c18 => ?_) (fun c18 => ?_)
        · refine RT.goto rfl ?_
          refine RS.slot 56 (sq eI [o4_1, o4_0, 345686400001]) (Le.lit (E := eI) (l := [o4_1, o4_0, 345686400001]) (cells_of rfl)) ?_
          refine RS.go ?_
          refine RT.call rfl (fun _ h => pilemake_Stream_Pick.ok k r15.2.1 r15.2.2 [o4_1, o4_0, 345686400001] _ h) (fun i => bif Nat.beq i 100000 then 100000 else i) (LeL.eq rfl) ⟨⟨_, rfl, LeO.refl _⟩, trivial⟩ (fun _ => rfl) (fun r16 => ?_)
          refine RS.go ?_
          refine RT.goto rfl ?_
          refine RS.slot 64 (sq eI [0, r16.1, x6]) (Le.lit (E := eI) (l := [0, r16.1, x6]) (cells_of rfl)) ?_
          refine RS.go ?_
          refine RT.call rfl (fun _ h => pilemake_Stream_Pick.ok k r16.2.1 r16.2.2 [0, r16.1, x6] _ h) (fun i => bif Nat.beq i 100000 then 100000 else i) (LeL.eq rfl) ⟨⟨_, rfl, LeO.refl _⟩, trivial⟩ (fun _ => rfl) (fun r17 => ?_)
          refine RS.go ?_
          refine RT.goto rfl ?_
          refine RS.slot 66 (sq eI [r17.1]) (Le.lit (E := eI) (l := [r17.1]) (cells_of rfl)) ?_
          refine RS.go ?_
          refine RT.req rfl ⟨by first | rfl | simp, by first | rfl | simp⟩ ?_
          refine RT.appD (E := eI) (l := o5b) (t := t5b) (m := [r17.1]) rfl (fun _ _ _ _ => rfl) ?_
          refine RS.go ?_
          refine RT.goto rfl ?_
          refine RS.weak [(3, .ref 3 0 0 0 2), (4, .ref 4 0 0 0 2), (5, .osl 5 eI.w 0 (o5b ++ [r17.1]).length ((o5b ++ [r17.1]) ++ (t5b.drop [r17.1].length)).length)] [(3, .box [.int .i64 0, .int .i64 0]), (4, .box [.int .i64 o4_0, .int .i64 r16.1]), (5, bufE eI ((o5b ++ [r17.1]) ++ (t5b.drop [r17.1].length))), (100000, .box [sq eI r17.2.1, .int .i64 r17.2.2])] ⟨Le.eq (by first | rfl | simp), Le.eq (by first | rfl | simp), Le.osl2 rfl rfl (by first | rfl | simp) (by first | rfl | simp), trivial⟩ ⟨⟨_, rfl, LeO.refl _⟩, ⟨_, rfl, LeO.refl _⟩, ⟨_, rfl, by first | exact LeO.refl _ | exact LeO.room0⟩, ⟨_, rfl, LeO.refl _⟩, trivial⟩ rfl (dom_of rfl) ?_
          exact ih.1 o4_0 r16.1 (t5b.drop [r17.1].length) (o5b ++ [r17.1]) r17.2.1 r17.2.2 
        · refine RT.goto rfl ?_
          refine RS.weak [(3, .ref 3 0 0 0 2), (4, .ref 4 0 0 0 2), (5, .osl 5 eI.w 0 o5b.length (o5b ++ t5b).length)] [(3, .box [.int .i64 0, .int .i64 0]), (4, .box [.int .i64 o4_0, .int .i64 o4_1]), (5, bufE eI (o5b ++ t5b)), (100000, .box [sq eI r15.2.1, .int .i64 r15.2.2])] ⟨Le.eq (by first | rfl | simp), Le.eq (by first | rfl | simp), Le.osl2 rfl rfl (by first | rfl | simp) (by first | rfl | simp), trivial⟩ ⟨⟨_, rfl, LeO.refl _⟩, ⟨_, rfl, LeO.refl _⟩, ⟨_, rfl, by first | exact LeO.refl _ | exact LeO.room0⟩, ⟨_, rfl, LeO.refl _⟩, trivial⟩ rfl (dom_of rfl) ?_
          exact ih.1 o4_0 o4_1 t5b o5b r15.2.1 r15.2.2 
    · intro x6 x17 x18 o4_0 o4_1 o5 o100000_0 o100000_1
      simp only [pilemake_Stream_TimesOf.l0]
      refine RS.go ?_
      refine RT.br rfl (fun c20 => ?_) (fun c20 => ?_)
      · refine RT.goto rfl ?_
        refine RS.slot 22 (sq eI [0, 1, 1000, 60000, 300000, 1800000]) (Le.lit (E := eI) (l := [0, 1, 1000, 60000, 300000, 1800000]) (cells_of rfl)) ?_
        refine RS.go ?_
        refine RT.call rfl (fun _ h => pilemake_Stream_Pick.ok k o100000_0 o100000_1 [0, 1, 1000, 60000, 300000, 1800000] _ h) (fun i => bif Nat.beq i 100000 then 100000 else i) (LeL.eq rfl) ⟨⟨_, rfl, LeO.refl _⟩, trivial⟩ (fun _ => rfl) (fun r4 => ?_)
        refine RS.go ?_
        refine RT.goto rfl ?_
        refine RS.slot 27 (sq eI [wrap64 (x6 + r4.1)]) (Le.lit (E := eI) (l := [wrap64 (x6 + r4.1)]) (cells_of rfl)) ?_
        refine RS.go ?_
        refine RT.req rfl ⟨by first | rfl | simp, by first | exact Nat.le_refl _ | simp⟩ ?_
        refine RT.not rfl (by simp <;> omega) ?_
        refine RT.br rfl (fun c5 => ?_) (fun _ => RT.none)
        refine RT.goto rfl ?_
        refine RS.obj 5 (bufE eI (o5 ++ [wrap64 (x6 + r4.1)])) ⟨_, rfl, LeO.app (l := o5) (m := [wrap64 (x6 + r4.1)]) fun _ _ _ _ => rfl⟩ ?_
        refine RS.slot 28 (.osl 5 eI.w 0 (o5 ++ [wrap64 (x6 + r4.1)]).length (o5 ++ [wrap64 (x6 + r4.1)]).length) (by first | exact Le.oslN rfl (by simp) | exact Le.trans (y := .osl 5 eI.w 0 (o5.length + 1) (o5.length + 1)) (Le.refl _) (Le.oslN rfl (by simp))) ?_
        refine RS.go ?_
        refine RT.goto rfl ?_
        refine RS.weak [(0, .ref 100000 0 0 0 2), (3, .ref 3 0 0 0 2), (4, .ref 4 0 0 0 2), (5, .osl 5 eI.w 0 (o5 ++ [wrap64 (x6 + r4.1)]).length (o5 ++ [wrap64 (x6 + r4.1)]).length), (6, .int .i64 (wrap64 (x6 + r4.1))), (17, .int .i64 x17), (18, .int .i64 (wrap64 (x18 + 1)))] [(3, .box [.int .i64 0, .int .i64 0]), (4, .box [.int .i64 o4_0, .int .i64 o4_1]), (5, bufE eI (o5 ++ [wrap64 (x6 + r4.1)])), (100000, .box [sq eI r4.2.1, .int .i64 r4.2.2])] ⟨Le.eq (by first | rfl | simp), Le.eq (by first | rfl | simp), Le.eq (by first | rfl | simp), (by first | exact Le.oslN rfl (by first | rfl | simp) | exact Le.refl _ | exact Le.eq (by first | rfl | simp)), Le.eq (by first | rfl | simp), Le.eq (by first | rfl | simp), Le.eq (by first | rfl | simp), trivial⟩ ⟨⟨_, rfl, LeO.refl _⟩, ⟨_, rfl, LeO.refl _⟩, ⟨_, rfl, LeO.refl _⟩, ⟨_, rfl, LeO.refl _⟩, trivial⟩ rfl (dom_of rfl) ?_
        exact ih.2.2 (wrap64 (x6 + r4.1)) x17 (wrap64 (x18 + 1)) o4_0 o4_1 (o5 ++ [wrap64 (x6 + r4.1)]) r4.2.1 r4.2.2 
      · refine RT.goto rfl ?_
        refine RS.weak [(0, .ref 100000 0 0 0 2), (3, .ref 3 0 0 0 2), (4, .ref 4 0 0 0 2), (5, .osl 5 eI.w 0 o5.length (o5 ++ ([] : List Int)).length), (6, .int .i64 x6)] [(3, .box [.int .i64 0, .int .i64 0]), (4, .box [.int .i64 o4_0, .int .i64 o4_1]), (5, bufE eI (o5 ++ ([] : List Int))), (100000, .box [sq eI o100000_0, .int .i64 o100000_1])] ⟨Le.eq (by first | rfl | simp), Le.eq (by first | rfl | simp), Le.eq (by first | rfl | simp), Le.osl2 rfl rfl (by first | rfl | simp) (by first | rfl | simp), Le.eq (by first | rfl | simp), trivial⟩ ⟨⟨_, rfl, LeO.refl _⟩, ⟨_, rfl, LeO.refl _⟩, ⟨_, rfl, by first | exact LeO.refl _ | exact LeO.room0⟩, ⟨_, rfl, LeO.refl _⟩, trivial⟩ rfl (dom_of rfl) ?_
        exact ih.2.1 x6 o4_0 o4_1 o100000_0 o100000_1 ([] : List Int) o5 
theorem pilemake_Stream_TimesOf.ok (k : Nat) (p0_0 : List Int) (p0_1 : Int) (r : (List Int) × (List Int) × Int × Int × (List Int) × Int) (h : pilemake_Stream_TimesOf.f k p0_0 p0_1 = some r) : Ct Try.prog B 5 [.ref 100000 0 0 0 2] (ofL [(100000, .box [sq eI p0_0, .int .i64 p0_1])]) (.tup [.osl 5 eI.w 0 r.1.length (r.1 ++ r.2.1).length, .agg [.int .i64 r.2.2.1, .int .i64 r.2.2.2.1]]) (ofL [(100000, .box [sq eI r.2.2.2.2.1, .int .i64 r.2.2.2.2.2]), (5, bufE eI (r.1 ++ r.2.1))]) := by
  refine Ct.of (Y := (fam Try.f5 [14, 1000048] [] [(100000, .box [sq eI p0_0, .int .i64 p0_1])] (fun r : (List Int) × (List Int) × Int × Int × (List Int) × Int => .tup [.osl 5 eI.w 0 r.1.length (r.1 ++ r.2.1).length, .agg [.int .i64 r.2.2.1, .int .i64 r.2.2.2.1]]) (fun r => [(100000, .box [sq eI r.2.2.2.2.1, .int .i64 r.2.2.2.2.2]), (5, bufE eI (r.1 ++ r.2.1))]))) Try.func5 rfl Try.call5 rfl rfl ?_ r h
  unfold pilemake_Stream_TimesOf.f
  refine RS.go ?_
  refine RT.goto rfl ?_
  refine RS.slot 8 (sq eI [0, 1000]) (Le.lit (E := eI) (l := [0, 1000]) (cells_of rfl)) ?_
  refine RS.go ?_
  refine RT.call rfl (fun _ h => pilemake_Stream_Pick.ok k p0_0 p0_1 [0, 1000] _ h) (fun i => bif Nat.beq i 100000 then 100000 else i) (LeL.eq rfl) ⟨⟨_, rfl, LeO.refl _⟩, trivial⟩ (fun _ => rfl) (fun r1 => ?_)
  refine RS.go ?_
  refine RT.goto rfl ?_
  refine RS.slot 11 (sq eI [3600000, 5000000, 9000000, 30000000]) (Le.lit (E := eI) (l := [3600000, 5000000, 9000000, 30000000]) (cells_of rfl)) ?_
  refine RS.go ?_
  refine RT.call rfl (fun _ h => pilemake_Stream_Pick.ok k r1.2.1 r1.2.2 [3600000, 5000000, 9000000, 30000000] _ h) (fun i => bif Nat.beq i 100000 then 100000 else i) (LeL.eq rfl) ⟨⟨_, rfl, LeO.refl _⟩, trivial⟩ (fun _ => rfl) (fun r2 => ?_)
  refine RS.go ?_
  refine RT.call rfl (fun _ h => pilemake_Stream_Range.ok k r2.2.1 r2.2.2 0 12 _ h) (fun i => bif Nat.beq i 100000 then 100000 else i) (LeL.eq rfl) ⟨⟨_, rfl, LeO.refl _⟩, trivial⟩ (fun _ => rfl) (fun r3 => ?_)
  refine RS.go ?_
  refine RT.goto rfl ?_
  refine RS.ghost 5 5 eI.w (rep eI []) rfl rfl ?_
  refine RS.weak [(0, .ref 100000 0 0 0 2), (3, .ref 3 0 0 0 2), (4, .ref 4 0 0 0 2), (5, .osl 5 eI.w 0 ([] : List Int).length ([] : List Int).length), (6, .int .i64 r1.1), (17, .int .i64 r3.1), (18, .int .i64 0)] [(3, .box [.int .i64 0, .int .i64 0]), (4, .box [.int .i64 r1.1, .int .i64 r2.1]), (5, bufE eI ([] : List Int)), (100000, .box [sq eI r3.2.1, .int .i64 r3.2.2])] ⟨Le.eq (by first | rfl | simp), Le.eq (by first | rfl | simp), Le.eq (by first | rfl | simp), (by first | exact Le.oslN rfl (by first | rfl | simp) | exact Le.refl _ | exact Le.eq (by first | rfl | simp)), Le.eq (by first | rfl | simp), Le.eq (by first | rfl | simp), Le.eq (by first | rfl | simp), trivial⟩ ⟨⟨_, rfl, LeO.refl _⟩, ⟨_, rfl, LeO.refl _⟩, ⟨_, rfl, LeO.refl _⟩, ⟨_, rfl, LeO.refl _⟩, trivial⟩ rfl (dom_of rfl) ?_
  exact (pilemake_Stream_TimesOf.loops p0_0 p0_1 k).2.2 r1.1 r3.1 0 r1.1 r2.1 [] r3.2.1 r3.2.2 
/-! ### pileref1_timeFault: function 39 -/
def pileref1_timeFault.f (a0_0 : Int) (a0_1 : Int) : Option (Int) := (if a0_0 < 0 then Option.some 1 else (if a0_0 ≥ a0_1 then Option.some 1 else (if a0_1 > 345686400000 then Option.some 1 else Option.some 0)))
theorem pileref1_timeFault.ok (a0_0 : Int) (a0_1 : Int) (r : Int) (h : pileref1_timeFault.f a0_0 a0_1 = some r) : Ct Try.prog B 39 [.agg [.int .i64 a0_0, .int .i64 a0_1]] (ofL []) (.int .i64 r) (ofL []) := by
  refine Ct.of (Y := (fam Try.f39 [] [] [] (fun r : Int => .int .i64 r) (fun r => []))) Try.func39 rfl Try.call39 rfl rfl ?_ r h
  unfold pileref1_timeFault.f
  refine RS.go ?_
  refine RT.br rfl (fun c3 => ?_) (fun c3 => ?_)
  · refine RT.brT rfl ?_
    refine RT.brT rfl ?_
    refine RT.brT rfl ?_
    refine RT.brT rfl ?_
    refine RT.brT rfl ?_
    refine RT.brT rfl ?_
    refine RT.brT rfl ?_
    refine RT.brT rfl ?_
    refine RT.brT rfl ?_
    refine RT.brT rfl ?_
    exact RT.done rfl rfl (Le.refl _) trivial rfl (dom0 rfl)
  · refine RT.brF rfl ?_
    refine RT.brF rfl ?_
    refine RT.brF rfl ?_
    refine RT.brF rfl ?_
    refine RT.brF rfl ?_
    refine RT.br rfl (fun c2 => ?_) (fun c2 => ?_)
    · refine RT.brT rfl ?_
      refine RT.brT rfl ?_
      refine RT.brT rfl ?_
      refine RT.brT rfl ?_
      exact RT.done rfl rfl (Le.refl _) trivial rfl (dom0 rfl)
    · refine RT.brF rfl ?_
      refine RT.brF rfl ?_
      refine RT.brF rfl ?_
      refine RT.br rfl (fun c1 => ?_) (fun c1 => ?_)
      · exact RT.done rfl rfl (Le.refl _) trivial rfl (dom0 rfl)
      · exact RT.done rfl rfl (Le.refl _) trivial rfl (dom0 rfl)
/-! ### pileref1_inside: function 40 -/
def pileref1_inside.f (a0_0 : Int) (a0_1 : Int) (a1 : Int) : Option (Bool) := (if a0_0 ≤ a1 then Option.some (decide (a1 < a0_1)) else Option.some false)
theorem pileref1_inside.ok (a0_0 : Int) (a0_1 : Int) (a1 : Int) (r : Bool) (h : pileref1_inside.f a0_0 a0_1 a1 = some r) : Ct Try.prog B 40 [.agg [.int .i64 a0_0, .int .i64 a0_1], .int .i64 a1] (ofL []) (.bool r) (ofL []) := by
  refine Ct.of (Y := (fam Try.f40 [] [] [] (fun r : Bool => .bool r) (fun r => []))) Try.func40 rfl Try.call40 rfl rfl ?_ r h
  unfold pileref1_inside.f
  refine RS.go ?_
  refine RT.br rfl (fun c1 => ?_) (fun c1 => ?_)
  · refine RT.brT rfl ?_
    refine RT.brT rfl ?_
    refine RT.brT rfl ?_
    refine RT.brT rfl ?_
    exact RT.done rfl rfl (Le.refl _) trivial rfl (dom0 rfl)
  · refine RT.brF rfl ?_
    refine RT.brF rfl ?_
    refine RT.brF rfl ?_
    refine RT.brF rfl ?_
    exact RT.done rfl rfl (Le.refl _) trivial rfl (dom0 rfl)
/-! ### pileref1_TimesFault: function 9 -/
def pileref1_TimesFault.l0 : Nat → List Int → Int → Int → Int → Option (Int)
  | 0, _, _, _, _ => Option.none
  | k + 1, l0, a1_0, a1_1, x18 => (if x18 < (l0.length : Int) then (if 0 ≤ x18 then (if x18 < (l0.length : Int) then ((pileref1_inside.f a1_0 a1_1 (rd l0 x18)).bind fun r4 => (if r4 = true then (if x18 > 0 then (if 0 ≤ wrap64 (x18 - 1) then (if wrap64 (x18 - 1) < (l0.length : Int) then (if (rd l0 x18) < (rd l0 (wrap64 (x18 - 1))) then Option.some 7 else pileref1_TimesFault.l0 k l0 a1_0 a1_1 (wrap64 (x18 + 1))) else Option.none) else Option.none) else pileref1_TimesFault.l0 k l0 a1_0 a1_1 (wrap64 (x18 + 1))) else Option.some 1)) else Option.none) else Option.none) else Option.some 0)
def pileref1_TimesFault.f (k : Nat) (l0 : List Int) (a1_0 : Int) (a1_1 : Int) : Option (Int) := ((pileref1_timeFault.f a1_0 a1_1).bind fun r1 => (if r1 = 0 then (if (l0.length : Int) > 2000 then Option.some 2 else pileref1_TimesFault.l0 k l0 a1_0 a1_1 0) else Option.some r1))
theorem pileref1_TimesFault.loops : ∀ k, (∀ (l0 : List Int) (a1_0 : Int) (a1_1 : Int) (x18 : Int), RS (fam Try.f9 [] [] [] (fun r : Int => .int .i64 r) (fun r => [])) (Func.head Try.f9 0) ⟨ofT [(0, sq eI l0), (3, .ref 3 0 0 0 2), (16, sq eI l0), (17, .int .i64 (l0.length : Int)), (18, .int .i64 x18)], ofL [(3, .box [.int .i64 a1_0, .int .i64 a1_1])]⟩ (pileref1_TimesFault.l0 k l0 a1_0 a1_1 x18))
  | 0 => by intro _ _ _ _; simp only [pileref1_TimesFault.l0]; exact RS.none
  | k + 1 => by
    have ih := pileref1_TimesFault.loops k
    · intro l0 a1_0 a1_1 x18
      simp only [pileref1_TimesFault.l0]
      refine RS.go ?_
      refine RT.br rfl (fun c10 => ?_) (fun c10 => ?_)
      · refine RT.br rfl (fun c2 => ?_) (fun c2 => RT.none)
        refine RT.br rfl (fun c3 => ?_) (fun c3 => RT.none)
        refine RT.call0 rfl (fun _ h => pileref1_inside.ok a1_0 a1_1 (rd l0 x18) _ h) (LeL.eq rfl) (fun _ => rfl) (fun r4 => ?_)
        refine RS.go ?_
        refine RT.brBN rfl (fun c9 => ?_) (fun c9 => ?_)
        · refine RT.br rfl (fun c8 => ?_) (fun c8 => ?_)
          · refine RT.brT rfl ?_
            refine RT.brT rfl ?_
            refine RT.brT rfl ?_
            refine RT.brT rfl ?_
            refine RT.br rfl (fun c5 => ?_) (fun c5 => RT.none)
            refine RT.br rfl (fun c6 => ?_) (fun c6 => RT.none)
            refine RT.brT rfl ?_
            refine RT.brT rfl ?_
            refine RT.brT rfl ?_
            refine RT.br rfl (fun c7 => ?_) (fun c7 => ?_)
            · exact RT.done rfl rfl (Le.refl _) trivial rfl (dom0 rfl)
            · refine RT.goto rfl ?_
              refine RS.weak [(0, sq eI l0), (3, .ref 3 0 0 0 2), (16, sq eI l0), (17, .int .i64 (l0.length : Int)), (18, .int .i64 (wrap64 (x18 + 1)))] [(3, .box [.int .i64 a1_0, .int .i64 a1_1])] ⟨Le.eq (by first | rfl | simp), Le.eq (by first | rfl | simp), Le.eq (by first | rfl | simp), Le.eq (by first | rfl | simp), Le.eq (by first | rfl | simp), trivial⟩ ⟨⟨_, rfl, LeO.refl _⟩, trivial⟩ rfl (dom0 rfl) ?_
              exact ih l0 a1_0 a1_1 (wrap64 (x18 + 1)) 
          · refine RT.brF rfl ?_
            refine RT.brF rfl ?_
            refine RT.brF rfl ?_
            refine RT.brF rfl ?_
            refine RT.brF rfl ?_
            refine RT.brF rfl ?_
            refine RT.brF rfl ?_
            refine RT.brF rfl ?_
            refine RT.goto rfl ?_
            refine RS.weak [(0, sq eI l0), (3, .ref 3 0 0 0 2), (16, sq eI l0), (17, .int .i64 (l0.length : Int)), (18, .int .i64 (wrap64 (x18 + 1)))] [(3, .box [.int .i64 a1_0, .int .i64 a1_1])] ⟨Le.eq (by first | rfl | simp), Le.eq (by first | rfl | simp), Le.eq (by first | rfl | simp), Le.eq (by first | rfl | simp), Le.eq (by first | rfl | simp), trivial⟩ ⟨⟨_, rfl, LeO.refl _⟩, trivial⟩ rfl (dom0 rfl) ?_
            exact ih l0 a1_0 a1_1 (wrap64 (x18 + 1)) 
        · exact RT.done rfl rfl (Le.refl _) trivial rfl (dom0 rfl)
      · exact RT.done rfl rfl (Le.refl _) trivial rfl (dom0 rfl)
theorem pileref1_TimesFault.ok (k : Nat) (l0 : List Int) (a1_0 : Int) (a1_1 : Int) (r : Int) (h : pileref1_TimesFault.f k l0 a1_0 a1_1 = some r) : Ct Try.prog B 9 [sq eI l0, .agg [.int .i64 a1_0, .int .i64 a1_1]] (ofL []) (.int .i64 r) (ofL []) := by
  refine Ct.of (Y := (fam Try.f9 [] [] [] (fun r : Int => .int .i64 r) (fun r => []))) Try.func9 rfl Try.call9 rfl rfl ?_ r h
  unfold pileref1_TimesFault.f
  refine RS.go ?_
  refine RT.call0 rfl (fun _ h => pileref1_timeFault.ok a1_0 a1_1 _ h) (LeL.eq rfl) (fun _ => rfl) (fun r1 => ?_)
  refine RS.go ?_
  refine RT.brN rfl (fun c12 => ?_) (fun c12 => ?_)
  · refine RT.br rfl (fun c11 => ?_) (fun c11 => ?_)
    · exact RT.done rfl rfl (Le.refl _) trivial rfl (dom0 rfl)
    · refine RT.goto rfl ?_
      refine RS.weak [(0, sq eI l0), (3, .ref 3 0 0 0 2), (16, sq eI l0), (17, .int .i64 (l0.length : Int)), (18, .int .i64 0)] [(3, .box [.int .i64 a1_0, .int .i64 a1_1])] ⟨Le.eq (by first | rfl | simp), Le.eq (by first | rfl | simp), Le.eq (by first | rfl | simp), Le.eq (by first | rfl | simp), Le.eq (by first | rfl | simp), trivial⟩ ⟨⟨_, rfl, LeO.refl _⟩, trivial⟩ rfl (dom0 rfl) ?_
      exact pileref1_TimesFault.loops k l0 a1_0 a1_1 0 
  · exact RT.done rfl rfl (Le.refl _) trivial rfl (dom0 rfl)
/-! ### kit_IsTime: function 88 -/
def kit_IsTime.f (a0_0 : Int) (a0_1 : Int) : Option (Bool) := (if a0_0 ≥ 0 then (if a0_0 < a0_1 then Option.some (decide (a0_1 ≤ 345686400000)) else Option.some false) else Option.some false)
theorem kit_IsTime.ok (a0_0 : Int) (a0_1 : Int) (r : Bool) (h : kit_IsTime.f a0_0 a0_1 = some r) : Ct Try.prog B 88 [.agg [.int .i64 a0_0, .int .i64 a0_1]] (ofL []) (.bool r) (ofL []) := by
  refine Ct.of (Y := (fam Try.f88 [] [] [] (fun r : Bool => .bool r) (fun r => []))) Try.func88 rfl Try.call88 rfl rfl ?_ r h
  unfold kit_IsTime.f
  refine RS.go ?_
  refine RT.br rfl (fun c2 => ?_) (fun c2 => ?_)
  · refine RT.brT rfl ?_
    refine RT.brT rfl ?_
    refine RT.brT rfl ?_
    refine RT.brT rfl ?_
    refine RT.brT rfl ?_
    refine RT.br rfl (fun c1 => ?_) (fun c1 => ?_)
    · refine RT.brT rfl ?_
      refine RT.brT rfl ?_
      refine RT.brT rfl ?_
      exact RT.done rfl rfl (Le.refl _) trivial rfl (dom0 rfl)
    · refine RT.brF rfl ?_
      refine RT.brF rfl ?_
      refine RT.brF rfl ?_
      exact RT.done rfl rfl (Le.refl _) trivial rfl (dom0 rfl)
  · refine RT.brF rfl ?_
    refine RT.brF rfl ?_
    refine RT.brF rfl ?_
    refine RT.brF rfl ?_
    refine RT.brF rfl ?_
    refine RT.brF rfl ?_
    refine RT.brF rfl ?_
    refine RT.brF rfl ?_
    refine RT.brF rfl ?_
    exact RT.done rfl rfl (Le.refl _) trivial rfl (dom0 rfl)
/-! ### kit_Has: function 89 -/
def kit_Has.f (a0_0 : Int) (a0_1 : Int) (a1 : Int) : Option (Bool) := (if a0_0 ≤ a1 then Option.some (decide (a1 < a0_1)) else Option.some false)
theorem kit_Has.ok (a0_0 : Int) (a0_1 : Int) (a1 : Int) (r : Bool) (h : kit_Has.f a0_0 a0_1 a1 = some r) : Ct Try.prog B 89 [.agg [.int .i64 a0_0, .int .i64 a0_1], .int .i64 a1] (ofL []) (.bool r) (ofL []) := by
  refine Ct.of (Y := (fam Try.f89 [] [] [] (fun r : Bool => .bool r) (fun r => []))) Try.func89 rfl Try.call89 rfl rfl ?_ r h
  unfold kit_Has.f
  refine RS.go ?_
  refine RT.br rfl (fun c1 => ?_) (fun c1 => ?_)
  · refine RT.brT rfl ?_
    refine RT.brT rfl ?_
    refine RT.brT rfl ?_
    refine RT.brT rfl ?_
    exact RT.done rfl rfl (Le.refl _) trivial rfl (dom0 rfl)
  · refine RT.brF rfl ?_
    refine RT.brF rfl ?_
    refine RT.brF rfl ?_
    refine RT.brF rfl ?_
    exact RT.done rfl rfl (Le.refl _) trivial rfl (dom0 rfl)
/-! ### rate_CheckTimes: function 60 -/
def rate_CheckTimes.l0 : Nat → List Int → Int → Int → Int → Option (Int)
  | 0, _, _, _, _ => Option.none
  | k + 1, l0, a1_0, a1_1, x15 => (if x15 < (l0.length : Int) then (if 0 ≤ x15 then (if x15 < (l0.length : Int) then ((kit_Has.f a1_0 a1_1 (rd l0 x15)).bind fun r4 => (if r4 = true then (if x15 > 0 then (if 0 ≤ wrap64 (x15 - 1) then (if wrap64 (x15 - 1) < (l0.length : Int) then (if (rd l0 x15) < (rd l0 (wrap64 (x15 - 1))) then Option.some 7 else rate_CheckTimes.l0 k l0 a1_0 a1_1 (wrap64 (x15 + 1))) else Option.none) else Option.none) else rate_CheckTimes.l0 k l0 a1_0 a1_1 (wrap64 (x15 + 1))) else Option.some 1)) else Option.none) else Option.none) else Option.some 0)
def rate_CheckTimes.f (k : Nat) (l0 : List Int) (a1_0 : Int) (a1_1 : Int) : Option (Int) := ((kit_IsTime.f a1_0 a1_1).bind fun r1 => (if r1 = true then (if (l0.length : Int) > 2000 then Option.some 2 else rate_CheckTimes.l0 k l0 a1_0 a1_1 0) else Option.some 1))
theorem rate_CheckTimes.loops : ∀ k, (∀ (l0 : List Int) (a1_0 : Int) (a1_1 : Int) (x15 : Int), RS (fam Try.f60 [] [] [] (fun r : Int => .int .i64 r) (fun r => [])) (Func.head Try.f60 0) ⟨ofT [(0, sq eI l0), (3, .ref 3 0 0 0 2), (13, sq eI l0), (14, .int .i64 (l0.length : Int)), (15, .int .i64 x15)], ofL [(3, .box [.int .i64 a1_0, .int .i64 a1_1])]⟩ (rate_CheckTimes.l0 k l0 a1_0 a1_1 x15))
  | 0 => by intro _ _ _ _; simp only [rate_CheckTimes.l0]; exact RS.none
  | k + 1 => by
    have ih := rate_CheckTimes.loops k
    · intro l0 a1_0 a1_1 x15
      simp only [rate_CheckTimes.l0]
      refine RS.go ?_
      refine RT.br rfl (fun c10 => ?_) (fun c10 => ?_)
      · refine RT.br rfl (fun c2 => ?_) (fun c2 => RT.none)
        refine RT.br rfl (fun c3 => ?_) (fun c3 => RT.none)
        refine RT.call0 rfl (fun _ h => kit_Has.ok a1_0 a1_1 (rd l0 x15) _ h) (LeL.eq rfl) (fun _ => rfl) (fun r4 => ?_)
        refine RS.go ?_
        refine RT.brBN rfl (fun c9 => ?_) (fun c9 => ?_)
        · refine RT.br rfl (fun c8 => ?_) (fun c8 => ?_)
          · refine RT.brT rfl ?_
            refine RT.brT rfl ?_
            refine RT.brT rfl ?_
            refine RT.brT rfl ?_
            refine RT.br rfl (fun c5 => ?_) (fun c5 => RT.none)
            refine RT.br rfl (fun c6 => ?_) (fun c6 => RT.none)
            refine RT.brT rfl ?_
            refine RT.brT rfl ?_
            refine RT.brT rfl ?_
            refine RT.br rfl (fun c7 => ?_) (fun c7 => ?_)
            · exact RT.done rfl rfl (Le.refl _) trivial rfl (dom0 rfl)
            · refine RT.goto rfl ?_
              refine RS.weak [(0, sq eI l0), (3, .ref 3 0 0 0 2), (13, sq eI l0), (14, .int .i64 (l0.length : Int)), (15, .int .i64 (wrap64 (x15 + 1)))] [(3, .box [.int .i64 a1_0, .int .i64 a1_1])] ⟨Le.eq (by first | rfl | simp), Le.eq (by first | rfl | simp), Le.eq (by first | rfl | simp), Le.eq (by first | rfl | simp), Le.eq (by first | rfl | simp), trivial⟩ ⟨⟨_, rfl, LeO.refl _⟩, trivial⟩ rfl (dom0 rfl) ?_
              exact ih l0 a1_0 a1_1 (wrap64 (x15 + 1)) 
          · refine RT.brF rfl ?_
            refine RT.brF rfl ?_
            refine RT.brF rfl ?_
            refine RT.brF rfl ?_
            refine RT.brF rfl ?_
            refine RT.brF rfl ?_
            refine RT.brF rfl ?_
            refine RT.brF rfl ?_
            refine RT.goto rfl ?_
            refine RS.weak [(0, sq eI l0), (3, .ref 3 0 0 0 2), (13, sq eI l0), (14, .int .i64 (l0.length : Int)), (15, .int .i64 (wrap64 (x15 + 1)))] [(3, .box [.int .i64 a1_0, .int .i64 a1_1])] ⟨Le.eq (by first | rfl | simp), Le.eq (by first | rfl | simp), Le.eq (by first | rfl | simp), Le.eq (by first | rfl | simp), Le.eq (by first | rfl | simp), trivial⟩ ⟨⟨_, rfl, LeO.refl _⟩, trivial⟩ rfl (dom0 rfl) ?_
            exact ih l0 a1_0 a1_1 (wrap64 (x15 + 1)) 
        · exact RT.done rfl rfl (Le.refl _) trivial rfl (dom0 rfl)
      · exact RT.done rfl rfl (Le.refl _) trivial rfl (dom0 rfl)
theorem rate_CheckTimes.ok (k : Nat) (l0 : List Int) (a1_0 : Int) (a1_1 : Int) (r : Int) (h : rate_CheckTimes.f k l0 a1_0 a1_1 = some r) : Ct Try.prog B 60 [sq eI l0, .agg [.int .i64 a1_0, .int .i64 a1_1]] (ofL []) (.int .i64 r) (ofL []) := by
  refine Ct.of (Y := (fam Try.f60 [] [] [] (fun r : Int => .int .i64 r) (fun r => []))) Try.func60 rfl Try.call60 rfl rfl ?_ r h
  unfold rate_CheckTimes.f
  refine RS.go ?_
  refine RT.call0 rfl (fun _ h => kit_IsTime.ok a1_0 a1_1 _ h) (LeL.eq rfl) (fun _ => rfl) (fun r1 => ?_)
  refine RS.go ?_
  refine RT.brBN rfl (fun c12 => ?_) (fun c12 => ?_)
  · refine RT.br rfl (fun c11 => ?_) (fun c11 => ?_)
    · exact RT.done rfl rfl (Le.refl _) trivial rfl (dom0 rfl)
    · refine RT.goto rfl ?_
      refine RS.weak [(0, sq eI l0), (3, .ref 3 0 0 0 2), (13, sq eI l0), (14, .int .i64 (l0.length : Int)), (15, .int .i64 0)] [(3, .box [.int .i64 a1_0, .int .i64 a1_1])] ⟨Le.eq (by first | rfl | simp), Le.eq (by first | rfl | simp), Le.eq (by first | rfl | simp), Le.eq (by first | rfl | simp), Le.eq (by first | rfl | simp), trivial⟩ ⟨⟨_, rfl, LeO.refl _⟩, trivial⟩ rfl (dom0 rfl) ?_
      exact rate_CheckTimes.loops k l0 a1_0 a1_1 0 
  · exact RT.done rfl rfl (Le.refl _) trivial rfl (dom0 rfl)
/-! ### kit_Outside: function 61 -/
def kit_Outside.f (a0 : Int) (a1 : Int) (a2 : Int) : Option (Bool) := (if a0 < a1 then Option.some true else Option.some (decide (a0 > a2)))
theorem kit_Outside.ok (a0 : Int) (a1 : Int) (a2 : Int) (r : Bool) (h : kit_Outside.f a0 a1 a2 = some r) : Ct Try.prog B 61 [.int .i64 a0, .int .i64 a1, .int .i64 a2] (ofL []) (.bool r) (ofL []) := by
  refine Ct.of (Y := (fam Try.f61 [] [] [] (fun r : Bool => .bool r) (fun r => []))) Try.func61 rfl Try.call61 rfl rfl ?_ r h
  unfold kit_Outside.f
  refine RS.go ?_
  refine RT.br rfl (fun c1 => ?_) (fun c1 => ?_)
  · refine RT.brT rfl ?_
    refine RT.brT rfl ?_
    refine RT.brT rfl ?_
    exact RT.done rfl rfl (Le.refl _) trivial rfl (dom0 rfl)
  · refine RT.brF rfl ?_
    refine RT.brF rfl ?_
    refine RT.brF rfl ?_
    exact RT.done rfl rfl (Le.refl _) trivial rfl (dom0 rfl)
/-! ### rate_hoursOf: function 62 -/
def rate_hoursOf.f (a0_0 : Int) (a0_1 : Int) : Option (Int) := Option.some (wrap64 (Int.tdiv (wrap64 ((wrap64 ((wrap64 (a0_1 - a0_0)) + 3600000)) - 1)) 3600000))
theorem rate_hoursOf.ok (a0_0 : Int) (a0_1 : Int) (r : Int) (h : rate_hoursOf.f a0_0 a0_1 = some r) : Ct Try.prog B 62 [.agg [.int .i64 a0_0, .int .i64 a0_1]] (ofL []) (.int .i64 r) (ofL []) := by
  refine Ct.of (Y := (fam Try.f62 [] [] [] (fun r : Int => .int .i64 r) (fun r => []))) Try.func62 rfl Try.call62 rfl rfl ?_ r h
  unfold rate_hoursOf.f
  refine RS.go ?_
  refine RT.brF rfl ?_
  exact RT.done rfl rfl (Le.refl _) trivial rfl (dom0 rfl)
/-! ### cmp_isNaN_int: function 97 -/
def cmp_isNaN_int.f (a0 : Int) : Option (Bool) := Option.some (!decide (a0 = a0))
theorem cmp_isNaN_int.ok (a0 : Int) (r : Bool) (h : cmp_isNaN_int.f a0 = some r) : Ct Try.prog B 97 [.int .i64 a0] (ofL []) (.bool r) (ofL []) := by
  refine Ct.of (Y := (fam Try.f97 [] [] [] (fun r : Bool => .bool r) (fun r => []))) Try.func97 rfl Try.call97 rfl rfl ?_ r h
  unfold cmp_isNaN_int.f
  refine RS.go ?_
  exact RT.done rfl rfl (Le.refl _) trivial rfl (dom0 rfl)
/-! ### cmp_Less_int: function 94 -/
def cmp_Less_int.f (a0 : Int) (a1 : Int) : Option (Bool) := ((cmp_isNaN_int.f a0).bind fun r1 => (if r1 = true then ((cmp_isNaN_int.f a1).bind fun r2 => (if r2 = true then Option.some (decide (a0 < a1)) else Option.some true)) else Option.some (decide (a0 < a1))))
theorem cmp_Less_int.ok (a0 : Int) (a1 : Int) (r : Bool) (h : cmp_Less_int.f a0 a1 = some r) : Ct Try.prog B 94 [.int .i64 a0, .int .i64 a1] (ofL []) (.bool r) (ofL []) := by
  refine Ct.of (Y := (fam Try.f94 [] [] [] (fun r : Bool => .bool r) (fun r => []))) Try.func94 rfl Try.call94 rfl rfl ?_ r h
  unfold cmp_Less_int.f
  refine RS.go ?_
  refine RT.call0 rfl (fun _ h => cmp_isNaN_int.ok a0 _ h) (LeL.eq rfl) (fun _ => rfl) (fun r1 => ?_)
  refine RS.go ?_
  refine RT.brB rfl (fun c4 => ?_) (fun c4 => ?_)
  · refine RT.brT rfl ?_
    refine RT.call0 rfl (fun _ h => cmp_isNaN_int.ok a1 _ h) (LeL.eq rfl) (fun _ => rfl) (fun r2 => ?_)
    refine RS.go ?_
    refine RT.brT rfl ?_
    refine RT.brT rfl ?_
    refine RT.brBN rfl (fun c3 => ?_) (fun c3 => ?_)
    · refine RT.brF rfl ?_
      refine RT.brF rfl ?_
      refine RT.brF rfl ?_
      exact RT.done rfl rfl (Le.refl _) trivial rfl (dom0 rfl)
    · refine RT.brT rfl ?_
      refine RT.brT rfl ?_
      refine RT.brT rfl ?_
      exact RT.done rfl rfl (Le.refl _) trivial rfl (dom0 rfl)
  · refine RT.brF rfl ?_
    refine RT.brF rfl ?_
    refine RT.brF rfl ?_
    refine RT.brF rfl ?_
    refine RT.brF rfl ?_
    refine RT.brF rfl ?_
    refine RT.brF rfl ?_
    exact RT.done rfl rfl (Le.refl _) trivial rfl (dom0 rfl)
/-! ### slices_isNaN_int: function 95 -/
def slices_isNaN_int.f (a0 : Int) : Option (Bool) := Option.some (!decide (a0 = a0))
theorem slices_isNaN_int.ok (a0 : Int) (r : Bool) (h : slices_isNaN_int.f a0 = some r) : Ct Try.prog B 95 [.int .i64 a0] (ofL []) (.bool r) (ofL []) := by
  refine Ct.of (Y := (fam Try.f95 [] [] [] (fun r : Bool => .bool r) (fun r => []))) Try.func95 rfl Try.call95 rfl rfl ?_ r h
  unfold slices_isNaN_int.f
  refine RS.go ?_
  exact RT.done rfl rfl (Le.refl _) trivial rfl (dom0 rfl)
/-! ### slices_BinarySearch_int_int: function 75 -/
def slices_BinarySearch_int_int.l0 : Nat → List Int → Int → Int → Int → Option (Int × Bool)
  | 0, _, _, _, _ => Option.none
  | k + 1, l0, a1, x7, x8 => (if x7 < x8 then (if 0 ≤ wrap64 (Int.fdiv (IntKind.u64.wrap (wrap64 (x7 + x8))) (2 ^ (min (Int.toNat 1) 64))) then (if wrap64 (Int.fdiv (IntKind.u64.wrap (wrap64 (x7 + x8))) (2 ^ (min (Int.toNat 1) 64))) < (l0.length : Int) then ((cmp_Less_int.f (rd l0 (wrap64 (Int.fdiv (IntKind.u64.wrap (wrap64 (x7 + x8))) (2 ^ (min (Int.toNat 1) 64))))) a1).bind fun r3 => (if r3 = true then slices_BinarySearch_int_int.l0 k l0 a1 (wrap64 ((wrap64 (Int.fdiv (IntKind.u64.wrap (wrap64 (x7 + x8))) (2 ^ (min (Int.toNat 1) 64)))) + 1)) x8 else slices_BinarySearch_int_int.l0 k l0 a1 x7 (wrap64 (Int.fdiv (IntKind.u64.wrap (wrap64 (x7 + x8))) (2 ^ (min (Int.toNat 1) 64)))))) else Option.none) else Option.none) else (if x7 < (l0.length : Int) then (if 0 ≤ x7 then (if x7 < (l0.length : Int) then (if (rd l0 x7) = a1 then Option.some (x7, true) else (if 0 ≤ x7 then (if x7 < (l0.length : Int) then ((slices_isNaN_int.f (rd l0 x7)).bind fun r9 => (if r9 = true then ((slices_isNaN_int.f a1).bind fun r10 => Option.some (x7, r10)) else Option.some (x7, false))) else Option.none) else Option.none)) else Option.none) else Option.none) else Option.some (x7, false)))
def slices_BinarySearch_int_int.f (k : Nat) (l0 : List Int) (a1 : Int) : Option (Int × Bool) := slices_BinarySearch_int_int.l0 k l0 a1 0 (l0.length : Int)
theorem slices_BinarySearch_int_int.loops : ∀ k, (∀ (l0 : List Int) (a1 : Int) (x7 : Int) (x8 : Int), RS (fam Try.f75 [] [] [] (fun r : Int × Bool => .tup [.int .i64 r.1, .bool r.2]) (fun r => [])) (Func.head Try.f75 0) ⟨ofT [(0, sq eI l0), (1, .int .i64 a1), (6, .int .i64 (l0.length : Int)), (7, .int .i64 x7), (8, .int .i64 x8)], ofL []⟩ (slices_BinarySearch_int_int.l0 k l0 a1 x7 x8))
  | 0 => by intro _ _ _ _; simp only [slices_BinarySearch_int_int.l0]; exact RS.none
  | k + 1 => by
    have ih := slices_BinarySearch_int_int.loops k
    · intro l0 a1 x7 x8
      simp only [slices_BinarySearch_int_int.l0]
      refine RS.go ?_
      refine RT.br rfl (fun c14 => ?_) (fun c14 => ?_)
      · refine RT.brF rfl ?_
        refine RT.br rfl (fun c1 => ?_) (fun c1 => RT.none)
        refine RT.br rfl (fun c2 => ?_) (fun c2 => RT.none)
        refine RT.call0 rfl (fun _ h => cmp_Less_int.ok (rd l0 (wrap64 (Int.fdiv (IntKind.u64.wrap (wrap64 (x7 + x8))) (2 ^ (min (Int.toNat 1) 64))))) a1 _ h) (LeL.eq rfl) (fun _ => rfl) (fun r3 => ?_)
        refine RS.go ?_
        refine RT.brB rfl (fun c4 => ?_) (fun c4 => ?_)
        · refine RT.goto rfl ?_
          refine RS.weak [(0, sq eI l0), (1, .int .i64 a1), (6, .int .i64 (l0.length : Int)), (7, .int .i64 (wrap64 ((wrap64 (Int.fdiv (IntKind.u64.wrap (wrap64 (x7 + x8))) (2 ^ (min (Int.toNat 1) 64)))) + 1))), (8, .int .i64 x8)] [] ⟨Le.eq (by first | rfl | simp), Le.eq (by first | rfl | simp), Le.eq (by first | rfl | simp), Le.eq (by first | rfl | simp), Le.eq (by first | rfl | simp), trivial⟩ trivial rfl (dom0 rfl) ?_
          exact ih l0 a1 (wrap64 ((wrap64 (Int.fdiv (IntKind.u64.wrap (wrap64 (x7 + x8))) (2 ^ (min (Int.toNat 1) 64)))) + 1)) x8 
        · refine RT.goto rfl ?_
          refine RS.weak [(0, sq eI l0), (1, .int .i64 a1), (6, .int .i64 (l0.length : Int)), (7, .int .i64 x7), (8, .int .i64 (wrap64 (Int.fdiv (IntKind.u64.wrap (wrap64 (x7 + x8))) (2 ^ (min (Int.toNat 1) 64)))))] [] ⟨Le.eq (by first | rfl | simp), Le.eq (by first | rfl | simp), Le.eq (by first | rfl | simp), Le.eq (by first | rfl | simp), Le.eq (by first | rfl | simp), trivial⟩ trivial rfl (dom0 rfl) ?_
          exact ih l0 a1 x7 (wrap64 (Int.fdiv (IntKind.u64.wrap (wrap64 (x7 + x8))) (2 ^ (min (Int.toNat 1) 64)))) 
      · refine RT.br rfl (fun c13 => ?_) (fun c13 => ?_)
        · refine RT.brT rfl ?_
          refine RT.brT rfl ?_
          refine RT.br rfl (fun c5 => ?_) (fun c5 => RT.none)
          refine RT.br rfl (fun c6 => ?_) (fun c6 => RT.none)
          refine RT.brT rfl ?_
          refine RT.brT rfl ?_
          refine RT.brT rfl ?_
          refine RT.brT rfl ?_
          refine RT.br rfl (fun c12 => ?_) (fun c12 => ?_)
          · refine RT.brT rfl ?_
            refine RT.brT rfl ?_
            refine RT.brT rfl ?_
            refine RT.brT rfl ?_
            refine RT.brT rfl ?_
            refine RT.brT rfl ?_
            refine RT.brT rfl ?_
            refine RT.brT rfl ?_
            refine RT.brT rfl ?_
            exact RT.done rfl rfl (Le.tup (LeL.cons (Le.refl _) (LeL.cons (Le.refl _) (LeL.nil)))) trivial rfl (dom0 rfl)
          · refine RT.brF rfl ?_
            refine RT.brF rfl ?_
            refine RT.br rfl (fun c7 => ?_) (fun c7 => RT.none)
            refine RT.br rfl (fun c8 => ?_) (fun c8 => RT.none)
            refine RT.brF rfl ?_
            refine RT.brF rfl ?_
            refine RT.call0 rfl (fun _ h => slices_isNaN_int.ok (rd l0 x7) _ h) (LeL.eq rfl) (fun _ => rfl) (fun r9 => ?_)
            refine RS.go ?_
            refine RT.brF rfl ?_
            refine RT.brB rfl (fun c11 => ?_) (fun c11 => ?_)
            · refine RT.brT rfl ?_
              refine RT.call0 rfl (fun _ h => slices_isNaN_int.ok a1 _ h) (LeL.eq rfl) (fun _ => rfl) (fun r10 => ?_)
              refine RS.go ?_
              refine RT.brF rfl ?_
              refine RT.brT rfl ?_
              refine RT.brT rfl ?_
              refine RT.brF rfl ?_
              refine RT.brT rfl ?_
              exact RT.done rfl rfl (Le.tup (LeL.cons (Le.refl _) (LeL.cons (Le.refl _) (LeL.nil)))) trivial rfl (dom0 rfl)
            · refine RT.brF rfl ?_
              refine RT.brF rfl ?_
              refine RT.brF rfl ?_
              refine RT.brT rfl ?_
              refine RT.brF rfl ?_
              refine RT.brT rfl ?_
              exact RT.done rfl rfl (Le.tup (LeL.cons (Le.refl _) (LeL.cons (Le.refl _) (LeL.nil)))) trivial rfl (dom0 rfl)
        · refine RT.brF rfl ?_
          refine RT.brF rfl ?_
          refine RT.brF rfl ?_
          refine RT.brF rfl ?_
          refine RT.brF rfl ?_
          refine RT.brF rfl ?_
          refine RT.brF rfl ?_
          refine RT.brF rfl ?_
          exact RT.done rfl rfl (Le.tup (LeL.cons (Le.refl _) (LeL.cons (Le.refl _) (LeL.nil)))) trivial rfl (dom0 rfl)
theorem slices_BinarySearch_int_int.ok (k : Nat) (l0 : List Int) (a1 : Int) (r : Int × Bool) (h : slices_BinarySearch_int_int.f k l0 a1 = some r) : Ct Try.prog B 75 [sq eI l0, .int .i64 a1] (ofL []) (.tup [.int .i64 r.1, .bool r.2]) (ofL []) := by
  refine Ct.of (Y := (fam Try.f75 [] [] [] (fun r : Int × Bool => .tup [.int .i64 r.1, .bool r.2]) (fun r => []))) Try.func75 rfl Try.call75 rfl rfl ?_ r h
  unfold slices_BinarySearch_int_int.f
  refine RS.go ?_
  refine RT.goto rfl ?_
  refine RS.weak [(0, sq eI l0), (1, .int .i64 a1), (6, .int .i64 (l0.length : Int)), (7, .int .i64 0), (8, .int .i64 (l0.length : Int))] [] ⟨Le.eq (by first | rfl | simp), Le.eq (by first | rfl | simp), Le.eq (by first | rfl | simp), Le.eq (by first | rfl | simp), Le.eq (by first | rfl | simp), trivial⟩ trivial rfl (dom0 rfl) ?_
  exact slices_BinarySearch_int_int.loops k l0 a1 0 (l0.length : Int) 
/-! ### rate_before: function 47 -/
def rate_before.f (k : Nat) (l0 : List Int) (a1 : Int) : Option (Int) := ((slices_BinarySearch_int_int.f k l0 a1).bind fun r1 => Option.some r1.1)
theorem rate_before.ok (k : Nat) (l0 : List Int) (a1 : Int) (r : Int) (h : rate_before.f k l0 a1 = some r) : Ct Try.prog B 47 [sq eI l0, .int .i64 a1] (ofL []) (.int .i64 r) (ofL []) := by
  refine Ct.of (Y := (fam Try.f47 [] [] [] (fun r : Int => .int .i64 r) (fun r => []))) Try.func47 rfl Try.call47 rfl rfl ?_ r h
  unfold rate_before.f
  refine RS.go ?_
  refine RT.call0 rfl (fun _ h => slices_BinarySearch_int_int.ok k l0 a1 _ h) (LeL.eq rfl) (fun _ => rfl) (fun r1 => ?_)
  refine RS.go ?_
  exact RT.done rfl rfl (Le.refl _) trivial rfl (dom0 rfl)
/-! ### kit_Floor: function 63 -/
def kit_Floor.j4 : Nat → Int → Option (Int)
  | 0, _ => Option.none
  | k + 1, x5j4 => Option.some x5j4
def kit_Floor.f (k : Nat) (a0 : Int) (a1 : Int) : Option (Int) := (if a1 = 0 then Option.none else (if a1 = 0 then Option.none else (if Int.tmod a0 a1 < 0 then kit_Floor.j4 k (wrap64 ((wrap64 (Int.tdiv a0 a1)) - 1)) else kit_Floor.j4 k (wrap64 (Int.tdiv a0 a1)))))
theorem kit_Floor.loops : ∀ k, (∀ (x5j4 : Int), RS (fam Try.f63 [4] [] [] (fun r : Int => .int .i64 r) (fun r => [])) (Func.reg Try.f63 4) ⟨ofT [(5, .int .i64 x5j4)], ofL []⟩ (kit_Floor.j4 k x5j4))
  | 0 => by intro _; simp only [kit_Floor.j4]; exact RS.none
  | k + 1 => by
    have ih := kit_Floor.loops k
    · intro x5j4
      simp only [kit_Floor.j4]
      refine RS.region ?_
      refine RS.go ?_
      exact RT.done rfl rfl (Le.refl _) trivial rfl (dom0 rfl)
theorem kit_Floor.ok (k : Nat) (a0 : Int) (a1 : Int) (r : Int) (h : kit_Floor.f k a0 a1 = some r) : Ct Try.prog B 63 [.int .i64 a0, .int .i64 a1] (ofL []) (.int .i64 r) (ofL []) := by
  refine Ct.of (Y := (fam Try.f63 [4] [] [] (fun r : Int => .int .i64 r) (fun r => []))) Try.func63 rfl Try.call63 rfl rfl ?_ r h
  unfold kit_Floor.f
  refine RS.go ?_
  refine RT.br rfl (fun _ => RT.none) (fun c3 => ?_)
  refine RT.br rfl (fun _ => RT.none) (fun c2 => ?_)
  refine RT.br rfl (fun c1 => ?_) (fun c1 => ?_)
  · refine RT.goto rfl ?_
    refine RS.weak [(5, .int .i64 (wrap64 ((wrap64 (Int.tdiv a0 a1)) - 1)))] [] ⟨Le.eq (by first | rfl | simp), trivial⟩ trivial rfl (dom0 rfl) ?_
    exact kit_Floor.loops k (wrap64 ((wrap64 (Int.tdiv a0 a1)) - 1)) 
  · refine RT.goto rfl ?_
    refine RS.weak [(5, .int .i64 (wrap64 (Int.tdiv a0 a1)))] [] ⟨Le.eq (by first | rfl | simp), trivial⟩ trivial rfl (dom0 rfl) ?_
    exact kit_Floor.loops k (wrap64 (Int.tdiv a0 a1)) 
/-! ### rate_Goal: function 26 -/
def rate_Goal.k0 : List DK := [⟨[59], [], [10], []⟩, ⟨[43, 58], [59, 10], [59], [10]⟩, ⟨[57], [58], [58], []⟩, ⟨[55, 56], [], [57], []⟩, ⟨[9], [], [56], []⟩, ⟨[48, 54], [], [55], []⟩, ⟨[49, 53], [], [54], []⟩, ⟨[50, 52], [], [53], []⟩, ⟨[51], [4], [52], []⟩, ⟨[4], [4], [51], []⟩, ⟨[12], [], [50], []⟩, ⟨[2], [], [49], []⟩, ⟨[46, 47], [], [48], []⟩, ⟨[9], [], [47], []⟩, ⟨[44, 45], [], [46], []⟩, ⟨[12], [], [45], []⟩, ⟨[0], [], [44], []⟩, ⟨[10], [], [43], []⟩]
def rate_Goal.k1 : List Nat := [0, 0, 0, 6, 0, 30, 0, 0, 0, 256, 896, 1984, 4094, 0, 16382, 32766, 65535, 131071]
def rate_Goal.l0 : Nat → List Int → Int → Int → Int → Int → Int → List Int → Option ((List Int) × Int)
  | 0, _, _, _, _, _, _, _ => Option.none
  | k + 1, l0, a1_0, a1_1, a2, x30, x31, o10 => (if x31 < x30 then ((rate_before.f k l0 (mn (wrap64 (a1_0 + (wrap64 ((wrap64 (x31 + 1)) * 3600000)))) a1_1)).bind fun r5 => ((kit_Floor.f k (wrap64 ((wrap64 (r5 * (wrap64 (a1_1 - a1_0)))) - (wrap64 (a2 * (wrap64 ((mn (wrap64 (a1_0 + (wrap64 ((wrap64 (x31 + 1)) * 3600000)))) a1_1) - a1_0)))))) (wrap64 (a1_1 - a1_0))).bind fun r6 => (if o10.length + 1 ≤ 549755813888 then rate_Goal.l0 k l0 a1_0 a1_1 a2 x30 (wrap64 (x31 + 1)) (o10 ++ [r6]) else Option.none))) else Option.some (o10, 0))
def rate_Goal.f (k : Nat) (l0 : List Int) (a1_0 : Int) (a1_1 : Int) (a2 : Int) : Option ((List Int) × Int) := ((rate_CheckTimes.f k l0 a1_0 a1_1).bind fun r1 => (if r1 = 0 then ((kit_Outside.f a2 0 99999).bind fun r2 => (if r2 = true then Option.some ([], 1) else ((rate_hoursOf.f a1_0 a1_1).bind fun r3 => (if r3 > 1000 then Option.some ([], 2) else ((rate_hoursOf.f a1_0 a1_1).bind fun r4 => rate_Goal.l0 k l0 a1_0 a1_1 a2 r4 0 []))))) else Option.some ([], r1)))
theorem rate_Goal.loops : ∀ k, (∀ (l0 : List Int) (a1_0 : Int) (a1_1 : Int) (a2 : Int) (x30 : Int) (x31 : Int) (o10 : List Int), RS (fam Try.f26 [] [] [] (fun r : (List Int) × Int => .tup [sq eI r.1, .int .i64 r.2]) (fun r => [])) (Func.head Try.f26 0) ⟨ofT [(0, sq eI l0), (2, .int .i64 a2), (4, .ref 4 0 0 0 2), (9, .int .i64 (wrap64 (a1_1 - a1_0))), (10, .osl 10 eI.w 0 o10.length o10.length), (30, .int .i64 x30), (31, .int .i64 x31)], ofL [(4, .box [.int .i64 a1_0, .int .i64 a1_1]), (10, bufE eI o10)]⟩ (rate_Goal.l0 k l0 a1_0 a1_1 a2 x30 x31 o10))
  | 0 => by intro _ _ _ _ _ _ _; simp only [rate_Goal.l0]; exact RS.none
  | k + 1 => by
    have ih := rate_Goal.loops k
    · intro l0 a1_0 a1_1 a2 x30 x31 o10
      simp only [rate_Goal.l0]
      refine RS.go ?_
      refine RT.br rfl (fun c8 => ?_) (fun c8 => ?_)
      · refine RT.goto rfl ?_
        refine RS.draw rfl ?_
        refine RD.call (CR := []) (CW := (fun r => [])) rfl (fun _ h => rate_before.ok k l0 (mn (wrap64 (a1_0 + (wrap64 ((wrap64 (x31 + 1)) * 3600000)))) a1_1) _ h) (fun i => i) trivial (fun _ => rfl) ⟨_, _, _, _, rfl, rfl, rfl⟩ (LeL.eq rfl) trivial (fun _ => rfl) (fun r5 => ?_)
        refine RD.call (CR := []) (CW := (fun r => [])) rfl (fun _ h => kit_Floor.ok k (wrap64 ((wrap64 (r5 * (wrap64 (a1_1 - a1_0)))) - (wrap64 (a2 * (wrap64 ((mn (wrap64 (a1_0 + (wrap64 ((wrap64 (x31 + 1)) * 3600000)))) a1_1) - a1_0)))))) (wrap64 (a1_1 - a1_0)) _ h) (fun i => i) trivial (fun _ => rfl) ⟨_, _, _, _, rfl, rfl, rfl⟩ (LeL.eq rfl) trivial (fun _ => rfl) (fun r6 => ?_)
        refine RD.req rfl ⟨by first | rfl | simp, by first | exact Nat.le_refl _ | simp⟩ ?_
        refine RD.not rfl (by simp <;> omega) ?_
        refine RD.br rfl (fun c7 => ?_) (fun _ => RD.none)
        refine RD.fin rate_Goal.k0 rate_Goal.k1 rfl rfl (by decide +kernel) ?_
        refine RS.obj 10 (bufE eI (o10 ++ [r6])) ⟨_, rfl, LeO.app (l := o10) (m := [r6]) (cells_of rfl)⟩ ?_
        refine RS.slot 10 (.osl 10 eI.w 0 (o10 ++ [r6]).length (o10 ++ [r6]).length) (Le.oslN rfl (by simp)) ?_
        refine RS.slot 59 (.osl 10 eI.w 0 (o10 ++ [r6]).length (o10 ++ [r6]).length) (Le.oslN rfl (by simp)) ?_
        refine RS.go ?_
        refine RT.goto rfl ?_
        refine RS.weak [(0, sq eI l0), (2, .int .i64 a2), (4, .ref 4 0 0 0 2), (9, .int .i64 (wrap64 (a1_1 - a1_0))), (10, .osl 10 eI.w 0 (o10 ++ [r6]).length (o10 ++ [r6]).length), (30, .int .i64 x30), (31, .int .i64 (wrap64 (x31 + 1)))] [(4, .box [.int .i64 a1_0, .int .i64 a1_1]), (10, bufE eI (o10 ++ [r6]))] ⟨Le.eq (by first | rfl | simp), Le.eq (by first | rfl | simp), Le.eq (by first | rfl | simp), Le.eq (by first | rfl | simp), (by first | exact Le.oslN rfl (by first | rfl | simp) | exact Le.refl _ | exact Le.eq (by first | rfl | simp)), Le.eq (by first | rfl | simp), Le.eq (by first | rfl | simp), trivial⟩ ⟨⟨_, rfl, LeO.refl _⟩, ⟨_, rfl, LeO.refl _⟩, trivial⟩ rfl (dom0 rfl) ?_
        exact ih l0 a1_0 a1_1 a2 x30 (wrap64 (x31 + 1)) (o10 ++ [r6]) 
      · refine RT.freeze 10 _ _ _ [(6, sq eI o10), (7, .int .i64 0)] [] rfl rfl ⟨.inr ⟨_, rfl, by first | exact Nat.le_refl _ | simp, rfl⟩, .inl (Le.refl _), trivial⟩ trivial rfl (dom0 rfl) ?_
        exact RT.done rfl rfl (Le.tup (LeL.cons (Le.refl _) (LeL.cons (Le.refl _) (LeL.nil)))) trivial rfl (dom0 rfl)
theorem rate_Goal.ok (k : Nat) (l0 : List Int) (a1_0 : Int) (a1_1 : Int) (a2 : Int) (r : (List Int) × Int) (h : rate_Goal.f k l0 a1_0 a1_1 a2 = some r) : Ct Try.prog B 26 [sq eI l0, .agg [.int .i64 a1_0, .int .i64 a1_1], .int .i64 a2] (ofL []) (.tup [sq eI r.1, .int .i64 r.2]) (ofL []) := by
  refine Ct.of (Y := (fam Try.f26 [] [] [] (fun r : (List Int) × Int => .tup [sq eI r.1, .int .i64 r.2]) (fun r => []))) Try.func26 rfl Try.call26 rfl rfl ?_ r h
  unfold rate_Goal.f
  refine RS.go ?_
  refine RT.call0 rfl (fun _ h => rate_CheckTimes.ok k l0 a1_0 a1_1 _ h) (LeL.eq rfl) (fun _ => rfl) (fun r1 => ?_)
  refine RS.go ?_
  refine RT.brN rfl (fun c11 => ?_) (fun c11 => ?_)
  · refine RT.call0 rfl (fun _ h => kit_Outside.ok a2 0 99999 _ h) (LeL.eq rfl) (fun _ => rfl) (fun r2 => ?_)
    refine RS.go ?_
    refine RT.brB rfl (fun c10 => ?_) (fun c10 => ?_)
    · exact RT.done rfl rfl (Le.tup (LeL.cons (Le.nil _ _) (LeL.cons (Le.refl _) (LeL.nil)))) trivial rfl (dom0 rfl)
    · refine RT.call0 rfl (fun _ h => rate_hoursOf.ok a1_0 a1_1 _ h) (LeL.eq rfl) (fun _ => rfl) (fun r3 => ?_)
      refine RS.go ?_
      refine RT.br rfl (fun c9 => ?_) (fun c9 => ?_)
      · exact RT.done rfl rfl (Le.tup (LeL.cons (Le.nil _ _) (LeL.cons (Le.refl _) (LeL.nil)))) trivial rfl (dom0 rfl)
      · refine RT.call0 rfl (fun _ h => rate_hoursOf.ok a1_0 a1_1 _ h) (LeL.eq rfl) (fun _ => rfl) (fun r4 => ?_)
        refine RS.go ?_
        refine RT.goto rfl ?_
        refine RS.ghost 10 10 eI.w (rep eI []) rfl rfl ?_
        refine RS.weak [(0, sq eI l0), (2, .int .i64 a2), (4, .ref 4 0 0 0 2), (9, .int .i64 (wrap64 (a1_1 - a1_0))), (10, .osl 10 eI.w 0 ([] : List Int).length ([] : List Int).length), (30, .int .i64 r4), (31, .int .i64 0)] [(4, .box [.int .i64 a1_0, .int .i64 a1_1]), (10, bufE eI ([] : List Int))] ⟨Le.eq (by first | rfl | simp), Le.eq (by first | rfl | simp), Le.eq (by first | rfl | simp), Le.eq (by first | rfl | simp), (by first | exact Le.oslN rfl (by first | rfl | simp) | exact Le.refl _ | exact Le.eq (by first | rfl | simp)), Le.eq (by first | rfl | simp), Le.eq (by first | rfl | simp), trivial⟩ ⟨⟨_, rfl, LeO.refl _⟩, ⟨_, rfl, LeO.refl _⟩, trivial⟩ rfl (dom0 rfl) ?_
        exact rate_Goal.loops k l0 a1_0 a1_1 a2 r4 0 [] 
  · exact RT.done rfl rfl (Le.tup (LeL.cons (Le.nil _ _) (LeL.cons (Le.refl _) (LeL.nil)))) trivial rfl (dom0 rfl)
/-! ### kit_IsMoment: function 90 -/
def kit_IsMoment.f (a0 : Int) : Option (Bool) := ((kit_Outside.f a0 0 345686399999).bind fun r1 => Option.some (!r1))
theorem kit_IsMoment.ok (a0 : Int) (r : Bool) (h : kit_IsMoment.f a0 = some r) : Ct Try.prog B 90 [.int .i64 a0] (ofL []) (.bool r) (ofL []) := by
  refine Ct.of (Y := (fam Try.f90 [] [] [] (fun r : Bool => .bool r) (fun r => []))) Try.func90 rfl Try.call90 rfl rfl ?_ r h
  unfold kit_IsMoment.f
  refine RS.go ?_
  refine RT.call0 rfl (fun _ h => kit_Outside.ok a0 0 345686399999 _ h) (LeL.eq rfl) (fun _ => rfl) (fun r1 => ?_)
  refine RS.go ?_
  exact RT.done rfl rfl (Le.refl _) trivial rfl (dom0 rfl)
/-! ### rate_isLong: function 82 -/
def rate_isLong.f (a0 : Int) : Option (Bool) := ((kit_Outside.f a0 60000 86400000).bind fun r1 => Option.some (!r1))
theorem rate_isLong.ok (a0 : Int) (r : Bool) (h : rate_isLong.f a0 = some r) : Ct Try.prog B 82 [.int .i64 a0] (ofL []) (.bool r) (ofL []) := by
  refine Ct.of (Y := (fam Try.f82 [] [] [] (fun r : Bool => .bool r) (fun r => []))) Try.func82 rfl Try.call82 rfl rfl ?_ r h
  unfold rate_isLong.f
  refine RS.go ?_
  refine RT.call0 rfl (fun _ h => kit_Outside.ok a0 60000 86400000 _ h) (LeL.eq rfl) (fun _ => rfl) (fun r1 => ?_)
  refine RS.go ?_
  exact RT.done rfl rfl (Le.refl _) trivial rfl (dom0 rfl)
/-! ### rate_lastFault: function 64 -/
def rate_lastFault.f (k : Nat) (l0 : List Int) (a1_0 : Int) (a1_1 : Int) (a2 : Int) (a3 : Int) : Option (Int) := ((rate_CheckTimes.f k l0 a1_0 a1_1).bind fun r1 => (if r1 = 0 then ((kit_IsMoment.f a2).bind fun r2 => (if r2 = true then ((rate_isLong.f a3).bind fun r3 => (if r3 = true then Option.some 0 else Option.some 1)) else Option.some 1)) else Option.some r1))
theorem rate_lastFault.ok (k : Nat) (l0 : List Int) (a1_0 : Int) (a1_1 : Int) (a2 : Int) (a3 : Int) (r : Int) (h : rate_lastFault.f k l0 a1_0 a1_1 a2 a3 = some r) : Ct Try.prog B 64 [sq eI l0, .agg [.int .i64 a1_0, .int .i64 a1_1], .int .i64 a2, .int .i64 a3] (ofL []) (.int .i64 r) (ofL []) := by
  refine Ct.of (Y := (fam Try.f64 [] [] [] (fun r : Int => .int .i64 r) (fun r => []))) Try.func64 rfl Try.call64 rfl rfl ?_ r h
  unfold rate_lastFault.f
  refine RS.go ?_
  refine RT.call0 rfl (fun _ h => rate_CheckTimes.ok k l0 a1_0 a1_1 _ h) (LeL.eq rfl) (fun _ => rfl) (fun r1 => ?_)
  refine RS.go ?_
  refine RT.brN rfl (fun c6 => ?_) (fun c6 => ?_)
  · refine RT.call0 rfl (fun _ h => kit_IsMoment.ok a2 _ h) (LeL.eq rfl) (fun _ => rfl) (fun r2 => ?_)
    refine RS.go ?_
    refine RT.brBN rfl (fun c5 => ?_) (fun c5 => ?_)
    · refine RT.brF rfl ?_
      refine RT.call0 rfl (fun _ h => rate_isLong.ok a3 _ h) (LeL.eq rfl) (fun _ => rfl) (fun r3 => ?_)
      refine RS.go ?_
      refine RT.brF rfl ?_
      refine RT.brF rfl ?_
      refine RT.brBN rfl (fun c4 => ?_) (fun c4 => ?_)
      · exact RT.done rfl rfl (Le.refl _) trivial rfl (dom0 rfl)
      · exact RT.done rfl rfl (Le.refl _) trivial rfl (dom0 rfl)
    · refine RT.brT rfl ?_
      refine RT.brT rfl ?_
      refine RT.brT rfl ?_
      refine RT.brT rfl ?_
      exact RT.done rfl rfl (Le.refl _) trivial rfl (dom0 rfl)
  · exact RT.done rfl rfl (Le.refl _) trivial rfl (dom0 rfl)
/-! ### rate_last: function 65 -/
def rate_last.f (a0_0 : Int) (a0_1 : Int) (a1 : Int) (a2 : Int) : Option (Int × Int) := Option.some (mx a0_0 (wrap64 (a1 - a2)), mn a0_1 a1)
theorem rate_last.ok (a0_0 : Int) (a0_1 : Int) (a1 : Int) (a2 : Int) (r : Int × Int) (h : rate_last.f a0_0 a0_1 a1 a2 = some r) : Ct Try.prog B 65 [.agg [.int .i64 a0_0, .int .i64 a0_1], .int .i64 a1, .int .i64 a2] (ofL []) (.agg [.int .i64 r.1, .int .i64 r.2]) (ofL []) := by
  refine Ct.of (Y := (fam Try.f65 [] [] [] (fun r : Int × Int => .agg [.int .i64 r.1, .int .i64 r.2]) (fun r => []))) Try.func65 rfl Try.call65 rfl rfl ?_ r h
  unfold rate_last.f
  refine RS.go ?_
  exact RT.done rfl rfl (Le.refl _) trivial rfl (dom0 rfl)
/-! ### rate_in: function 66 -/
def rate_in.k0 : List DK := [⟨[14], [], [4], []⟩, ⟨[13], [], [14], []⟩, ⟨[8, 12], [], [13], []⟩, ⟨[9, 11], [], [12], []⟩, ⟨[10], [3], [11], []⟩, ⟨[3], [3], [10], []⟩, ⟨[0], [], [9], []⟩, ⟨[5, 7], [], [8], []⟩, ⟨[6], [3], [7], []⟩, ⟨[3], [3], [6], []⟩, ⟨[0], [], [5], []⟩]
def rate_in.k1 : List Nat := [0, 0, 2, 7, 0, 0, 32, 127, 255, 511, 1023]
def rate_in.f (k : Nat) (l0 : List Int) (a1_0 : Int) (a1_1 : Int) : Option (Int) := ((rate_before.f k l0 a1_1).bind fun r1 => ((rate_before.f k l0 a1_0).bind fun r2 => Option.some (mx 0 (wrap64 (r1 - r2)))))
theorem rate_in.ok (k : Nat) (l0 : List Int) (a1_0 : Int) (a1_1 : Int) (r : Int) (h : rate_in.f k l0 a1_0 a1_1 = some r) : Ct Try.prog B 66 [sq eI l0, .agg [.int .i64 a1_0, .int .i64 a1_1]] (ofL []) (.int .i64 r) (ofL []) := by
  refine Ct.of (Y := (fam Try.f66 [] [] [] (fun r : Int => .int .i64 r) (fun r => []))) Try.func66 rfl Try.call66 rfl rfl ?_ r h
  unfold rate_in.f
  refine RS.go ?_
  refine RT.goto rfl ?_
  refine RS.draw rfl ?_
  refine RD.call (CR := []) (CW := (fun r => [])) rfl (fun _ h => rate_before.ok k l0 a1_1 _ h) (fun i => i) trivial (fun _ => rfl) ⟨_, _, _, _, rfl, rfl, rfl⟩ (LeL.eq rfl) trivial (fun _ => rfl) (fun r1 => ?_)
  refine RD.call (CR := []) (CW := (fun r => [])) rfl (fun _ h => rate_before.ok k l0 a1_0 _ h) (fun i => i) trivial (fun _ => rfl) ⟨_, _, _, _, rfl, rfl, rfl⟩ (LeL.eq rfl) trivial (fun _ => rfl) (fun r2 => ?_)
  refine RD.fin rate_in.k0 rate_in.k1 rfl rfl (by decide +kernel) ?_
  refine RS.go ?_
  exact RT.done rfl rfl (Le.refl _) trivial rfl (dom0 rfl)
/-! ### rate_Forecast: function 27 -/
def rate_Forecast.k0 : List DK := [⟨[], [], [10], []⟩, ⟨[], [], [9], []⟩, ⟨[50], [], [8], []⟩, ⟨[38, 49], [], [50], []⟩, ⟨[43, 48], [], [49], []⟩, ⟨[45, 47], [], [48], []⟩, ⟨[46], [12], [47], []⟩, ⟨[12], [12], [46], []⟩, ⟨[44], [12], [45], []⟩, ⟨[12], [12], [44], []⟩, ⟨[39, 42], [], [43], []⟩, ⟨[40, 41], [], [42], []⟩, ⟨[12], [12], [41], []⟩, ⟨[0], [], [40], []⟩, ⟨[13], [], [39], []⟩, ⟨[36, 37], [], [38], []⟩, ⟨[2], [], [37], []⟩, ⟨[0], [], [36], []⟩]
def rate_Forecast.k1 : List Nat := [0, 0, 3, 0, 0, 0, 55, 127, 0, 256, 0, 1024, 3840, 8191, 16383, 32767, 65535, 131071]
def rate_Forecast.f (k : Nat) (l0 : List Int) (a1_0 : Int) (a1_1 : Int) (a2 : Int) (a3 : Int) : Option (Int × Bool × Int) := ((rate_lastFault.f k l0 a1_0 a1_1 a2 a3).bind fun r1 => (if r1 = 0 then ((rate_last.f a1_0 a1_1 a2 a3).bind fun r2 => (if r2.1 ≥ r2.2 then Option.some (0, false, 0) else ((rate_before.f k l0 a2).bind fun r3 => ((rate_in.f k l0 r2.1 r2.2).bind fun r4 => (if wrap64 (r2.2 - r2.1) = 0 then Option.none else Option.some (wrap64 (r3 + (wrap64 (Int.tdiv (wrap64 ((mx 0 (wrap64 (a1_1 - a2))) * r4)) (wrap64 (r2.2 - r2.1))))), true, 0)))))) else Option.some (0, false, r1)))
theorem rate_Forecast.ok (k : Nat) (l0 : List Int) (a1_0 : Int) (a1_1 : Int) (a2 : Int) (a3 : Int) (r : Int × Bool × Int) (h : rate_Forecast.f k l0 a1_0 a1_1 a2 a3 = some r) : Ct Try.prog B 27 [sq eI l0, .agg [.int .i64 a1_0, .int .i64 a1_1], .int .i64 a2, .int .i64 a3] (ofL []) (.tup [.int .i64 r.1, .bool r.2.1, .int .i64 r.2.2]) (ofL []) := by
  refine Ct.of (Y := (fam Try.f27 [] [] [] (fun r : Int × Bool × Int => .tup [.int .i64 r.1, .bool r.2.1, .int .i64 r.2.2]) (fun r => []))) Try.func27 rfl Try.call27 rfl rfl ?_ r h
  unfold rate_Forecast.f
  refine RS.go ?_
  refine RT.call0 rfl (fun _ h => rate_lastFault.ok k l0 a1_0 a1_1 a2 a3 _ h) (LeL.eq rfl) (fun _ => rfl) (fun r1 => ?_)
  refine RS.go ?_
  refine RT.brN rfl (fun c7 => ?_) (fun c7 => ?_)
  · refine RT.call0 rfl (fun _ h => rate_last.ok a1_0 a1_1 a2 a3 _ h) (LeL.eq rfl) (fun _ => rfl) (fun r2 => ?_)
    refine RS.go ?_
    refine RT.br rfl (fun c6 => ?_) (fun c6 => ?_)
    · exact RT.done rfl rfl (Le.tup (LeL.cons (Le.refl _) (LeL.cons (Le.refl _) (LeL.cons (Le.refl _) (LeL.nil))))) trivial rfl (dom0 rfl)
    · refine RT.goto rfl ?_
      refine RS.draw rfl ?_
      refine RD.call (CR := []) (CW := (fun r => [])) rfl (fun _ h => rate_before.ok k l0 a2 _ h) (fun i => i) trivial (fun _ => rfl) ⟨_, _, _, _, rfl, rfl, rfl⟩ (LeL.eq rfl) trivial (fun _ => rfl) (fun r3 => ?_)
      refine RD.call (CR := []) (CW := (fun r => [])) rfl (fun _ h => rate_in.ok k l0 r2.1 r2.2 _ h) (fun i => i) trivial (fun _ => rfl) ⟨_, _, _, _, rfl, rfl, rfl⟩ (LeL.eq rfl) trivial (fun _ => rfl) (fun r4 => ?_)
      refine RD.br rfl (fun _ => RD.none) (fun c5 => ?_)
      refine RD.fin rate_Forecast.k0 rate_Forecast.k1 rfl rfl (by decide +kernel) ?_
      refine RS.go ?_
      exact RT.done rfl rfl (Le.tup (LeL.cons (Le.refl _) (LeL.cons (Le.refl _) (LeL.cons (Le.refl _) (LeL.nil))))) trivial rfl (dom0 rfl)
  · exact RT.done rfl rfl (Le.tup (LeL.cons (Le.refl _) (LeL.cons (Le.refl _) (LeL.cons (Le.refl _) (LeL.nil))))) trivial rfl (dom0 rfl)
def slices_Grow_int_int_ren : Go.Shelf.Ren := ⟨fun | 4 => 91 | n => n, fun | 0 => 0 | 3 => 3 | 4 => 4 | 9 => 9 | 20 => 20 | 22 => 22 | 25 => 3 | n => n, fun | n => n⟩
theorem slices_Grow_int_int_lay : Lays8.n4 Try.prog slices_Grow_int_int_ren := {
  mixed := by kernel_rfl
  f4 := ⟨"slices.Grow[[]int,int]", by decide, Try.func91.trans (congrArg some (by kernel_rfl))⟩
  t0 := Try.underlying0
  a0 := Try.isAgg0
  z0 := Try.sizeOf0
  v0 := Try.zeroValue0
  t3 := Try.underlying3
  a3 := Try.isAgg3
  z3 := Try.sizeOf3
  v3 := Try.zeroValue3
  t4 := Try.underlying4
  a4 := Try.isAgg4
  z4 := Try.sizeOf4
  v4 := Try.zeroValue4
  t9 := Try.underlying9
  a9 := Try.isAgg9
  z9 := Try.sizeOf9
  v9 := Try.zeroValue9
  t20 := Try.underlying20
  a20 := Try.isAgg20
  z20 := Try.sizeOf20
  v20 := Try.zeroValue20
  t22 := Try.underlying22
  a22 := Try.isAgg22
  z22 := Try.sizeOf22
  v22 := Try.zeroValue22 }
def slices_Grow_int_int.f (a1 : Int) : Option (List Int × List Int) := if 0 ≤ a1 ∧ a1 ≤ 140737488355 then some ([], List.replicate a1.toNat eI.d) else none
theorem slices_Grow_int_int.ok (a1 : Int) (r : List Int × List Int) (h : slices_Grow_int_int.f a1 = some r) : Ct Try.prog B 91 [.v (.slice none 0 0), .int .i64 a1] (ofL []) (.osl 500000 eI.w 0 r.1.length (r.1 ++ r.2).length) (ofL [(500000, bufE eI (r.1 ++ r.2))]) := by
  unfold slices_Grow_int_int.f at h
  split at h
  case isFalse => cases h
  case isTrue c =>
  cases h
  obtain ⟨n, rfl⟩ := Int.eq_ofNat_of_zero_le c.1
  rw [Int.toNat_natCast]
  have c2 := c.2
  obtain ⟨i0, hi0, hs0, hz0, hb0⟩ : ∃ i0, Try.prog.info? (slices_Grow_int_int_ren.t 25) = some i0 ∧ i0.size = 1 ∧ i0.zero = some (.int .i64 0) ∧ i0.bytes ≤ 1000 := ⟨_, info_of Try.type3, rfl, rfl, by decide⟩
  have hl : (([] : List Int) ++ List.replicate n eI.d).length = n := by simp
  have key := Ct.growNil (E := eI) (z := .int .i64 0) (P := Try.prog) (B := B) (f := 91) (T := slices_Grow_int_int_ren.t 25) (n := n) rfl rfl rfl Try.call91
    (fun hn w => Any8.slices_Grow_grow slices_Grow_int_int_lay i0 _ hi0 hz0 (by omega) none 0 0 n [] w (Nat.le_refl _) (by omega) (Nat.le_trans (Nat.mul_le_mul_left _ hb0) (by omega)) (by omega) (by simp) (fun _ => rfl) (fun a e => by cases e))
    (fun hn w => Any8.slices_Grow_room slices_Grow_int_int_lay none 0 0 n w (Nat.le_refl _) (by omega) (by omega) (by omega))
  show Ct _ _ _ _ _ (.osl 500000 (eI.w) 0 ([] : List Int).length (([] : List Int) ++ List.replicate n eI.d).length) _
  rw [hl]
  exact key


/-! ### slices_Concat_int_int: function 67 -/
mutual
def slices_Concat_int_int.j8 : Nat → List (List Int) → Int → Int → Option ((List Int) × (List Int))
  | 0, _, _, _ => Option.none
  | k + 1, l0, x3, x11 => slices_Concat_int_int.l0 k l0 (wrap64 (x3 + ((rdE e_L l0 x11).length : Int))) (wrap64 (x11 + 1))
def slices_Concat_int_int.l1 : Nat → List (List Int) → Int → List Int → List Int → Option ((List Int) × (List Int))
  | 0, _, _, _, _ => Option.none
  | k + 1, l0, x27b, t24b, o24b => (if x27b < (l0.length : Int) then (if 0 ≤ x27b then (if x27b < (l0.length : Int) then (if o24b.length + (rdE e_L l0 x27b).length ≤ 549755813888 then slices_Concat_int_int.l1 k l0 (wrap64 (x27b + 1)) (t24b.drop (rdE e_L l0 x27b).length) (o24b ++ (rdE e_L l0 x27b)) else Option.none) else Option.none) else Option.none) else Option.some (o24b, t24b))
def slices_Concat_int_int.l0 : Nat → List (List Int) → Int → Int → Option ((List Int) × (List Int))
  | 0, _, _, _ => Option.none
  | k + 1, l0, x3, x11 => (if x11 < (l0.length : Int) then (if 0 ≤ x11 then (if x11 < (l0.length : Int) then (if wrap64 (x3 + ((rdE e_L l0 x11).length : Int)) < 0 then Option.none else slices_Concat_int_int.j8 k l0 x3 x11) else Option.none) else Option.none) else ((slices_Grow_int_int.f x3).bind fun r4 => slices_Concat_int_int.l1 k l0 0 r4.2 r4.1))
end
def slices_Concat_int_int.f (k : Nat) (l0 : List (List Int)) : Option ((List Int) × (List Int)) := slices_Concat_int_int.l0 k l0 0 0
theorem slices_Concat_int_int.loops : ∀ k, (∀ (l0 : List (List Int)) (x3 : Int) (x11 : Int), RS (fam Try.f67 [8] [] [] (fun r : (List Int) × (List Int) => .osl 24 eI.w 0 r.1.length (r.1 ++ r.2).length) (fun r => [(24, bufE eI (r.1 ++ r.2))])) (Func.reg Try.f67 8) ⟨ofT [(0, sq e_L l0), (3, .int .i64 (wrap64 (x3 + ((rdE e_L l0 x11).length : Int)))), (9, sq e_L l0), (10, .int .i64 (l0.length : Int)), (11, .int .i64 x11)], ofL []⟩ (slices_Concat_int_int.j8 k l0 x3 x11)) ∧ (∀ (l0 : List (List Int)) (x27b : Int) (t24b : List Int) (o24b : List Int), RS (fam Try.f67 [8] [] [] (fun r : (List Int) × (List Int) => .osl 24 eI.w 0 r.1.length (r.1 ++ r.2).length) (fun r => [(24, bufE eI (r.1 ++ r.2))])) (Func.head Try.f67 1) ⟨ofT [(6, .osl 24 eI.w 0 o24b.length (o24b ++ t24b).length), (25, sq e_L l0), (26, .int .i64 (l0.length : Int)), (27, .int .i64 x27b)], ofL [(24, bufE eI (o24b ++ t24b))]⟩ (slices_Concat_int_int.l1 k l0 x27b t24b o24b)) ∧ (∀ (l0 : List (List Int)) (x3 : Int) (x11 : Int), RS (fam Try.f67 [8] [] [] (fun r : (List Int) × (List Int) => .osl 24 eI.w 0 r.1.length (r.1 ++ r.2).length) (fun r => [(24, bufE eI (r.1 ++ r.2))])) (Func.head Try.f67 0) ⟨ofT [(0, sq e_L l0), (3, .int .i64 x3), (9, sq e_L l0), (10, .int .i64 (l0.length : Int)), (11, .int .i64 x11)], ofL []⟩ (slices_Concat_int_int.l0 k l0 x3 x11))
  | 0 => ⟨by intro _ _ _; simp only [slices_Concat_int_int.j8]; exact RS.none, by intro _ _ _ _; simp only [slices_Concat_int_int.l1]; exact RS.none, by intro _ _ _; simp only [slices_Concat_int_int.l0]; exact RS.none⟩
  | k + 1 => by
    have ih := slices_Concat_int_int.loops k
    refine ⟨?_, ?_, ?_⟩
    · intro l0 x3 x11
      simp only [slices_Concat_int_int.j8]
      refine RS.region ?_
      refine RS.go ?_
      refine RT.goto rfl ?_
      refine RS.weak [(0, sq e_L l0), (3, .int .i64 (wrap64 (x3 + ((rdE e_L l0 x11).length : Int)))), (9, sq e_L l0), (10, .int .i64 (l0.length : Int)), (11, .int .i64 (wrap64 (x11 + 1)))] [] ⟨Le.eq (by first | rfl | simp), Le.eq (by first | rfl | simp), Le.eq (by first | rfl | simp), Le.eq (by first | rfl | simp), Le.eq (by first | rfl | simp), trivial⟩ trivial rfl (dom0 rfl) ?_
      exact ih.2.2 l0 (wrap64 (x3 + ((rdE e_L l0 x11).length : Int))) (wrap64 (x11 + 1)) 
    · intro l0 x27b t24b o24b
      simp only [slices_Concat_int_int.l1]
      refine RS.go ?_
      refine RT.br rfl (fun c7 => ?_) (fun c7 => ?_)
      · refine RT.br rfl (fun c5 => ?_) (fun c5 => RT.none)
        refine RT.br rfl (fun c6 => ?_) (fun c6 => RT.none)
        refine RT.req rfl ⟨by first | rfl | simp, by first | rfl | simp⟩ ?_
        refine RT.appD (E := eI) (l := o24b) (t := t24b) (m := (rdE e_L l0 x27b)) rfl (fun _ _ _ _ => rfl) ?_
        refine RS.go ?_
        refine RT.goto rfl ?_
        refine RS.weak [(6, .osl 24 eI.w 0 (o24b ++ (rdE e_L l0 x27b)).length ((o24b ++ (rdE e_L l0 x27b)) ++ (t24b.drop (rdE e_L l0 x27b).length)).length), (25, sq e_L l0), (26, .int .i64 (l0.length : Int)), (27, .int .i64 (wrap64 (x27b + 1)))] [(24, bufE eI ((o24b ++ (rdE e_L l0 x27b)) ++ (t24b.drop (rdE e_L l0 x27b).length)))] ⟨Le.osl2 rfl rfl (by first | rfl | simp) (by first | rfl | simp), Le.eq (by first | rfl | simp), Le.eq (by first | rfl | simp), Le.eq (by first | rfl | simp), trivial⟩ ⟨⟨_, rfl, by first | exact LeO.refl _ | exact LeO.room0⟩, trivial⟩ rfl (dom0 rfl) ?_
        exact ih.2.1 l0 (wrap64 (x27b + 1)) (t24b.drop (rdE e_L l0 x27b).length) (o24b ++ (rdE e_L l0 x27b)) 
      · exact RT.done rfl rfl (Le.refl _) ⟨⟨_, rfl, by first | exact LeO.refl _ | exact LeO.room0⟩, trivial⟩ rfl (dom0 rfl)
    · intro l0 x3 x11
      simp only [slices_Concat_int_int.l0]
      refine RS.go ?_
      refine RT.br rfl (fun c8 => ?_) (fun c8 => ?_)
      · refine RT.br rfl (fun c1 => ?_) (fun c1 => RT.none)
        refine RT.br rfl (fun c2 => ?_) (fun c2 => RT.none)
        refine RT.br rfl (fun c3 => ?_) (fun c3 => ?_)
        · exact RT.none
        · refine RT.goto rfl ?_
          refine RS.weak [(0, sq e_L l0), (3, .int .i64 (wrap64 (x3 + ((rdE e_L l0 x11).length : Int)))), (9, sq e_L l0), (10, .int .i64 (l0.length : Int)), (11, .int .i64 x11)] [] ⟨Le.eq (by first | rfl | simp), Le.eq (by first | rfl | simp), Le.eq (by first | rfl | simp), Le.eq (by first | rfl | simp), Le.eq (by first | rfl | simp), trivial⟩ trivial rfl (dom0 rfl) ?_
          exact ih.1 l0 x3 x11 
      · refine RT.call rfl (fun _ h => slices_Grow_int_int.ok x3 _ h) (fun i => bif Nat.beq i 500000 then 24 else i) (LeL.eq rfl) trivial (fun _ => rfl) (fun r4 => ?_)
        refine RS.go ?_
        refine RT.goto rfl ?_
        refine RS.weak [(6, .osl 24 eI.w 0 r4.1.length (r4.1 ++ r4.2).length), (25, sq e_L l0), (26, .int .i64 (l0.length : Int)), (27, .int .i64 0)] [(24, bufE eI (r4.1 ++ r4.2))] ⟨Le.osl2 rfl rfl (by first | rfl | simp) (by first | rfl | simp), Le.eq (by first | rfl | simp), Le.eq (by first | rfl | simp), Le.eq (by first | rfl | simp), trivial⟩ ⟨⟨_, rfl, by first | exact LeO.refl _ | exact LeO.room0⟩, trivial⟩ rfl (dom0 rfl) ?_
        exact ih.2.1 l0 0 r4.2 r4.1 
theorem slices_Concat_int_int.ok (k : Nat) (l0 : List (List Int)) (r : (List Int) × (List Int)) (h : slices_Concat_int_int.f k l0 = some r) : Ct Try.prog B 67 [sq e_L l0] (ofL []) (.osl 24 eI.w 0 r.1.length (r.1 ++ r.2).length) (ofL [(24, bufE eI (r.1 ++ r.2))]) := by
  refine Ct.of (Y := (fam Try.f67 [8] [] [] (fun r : (List Int) × (List Int) => .osl 24 eI.w 0 r.1.length (r.1 ++ r.2).length) (fun r => [(24, bufE eI (r.1 ++ r.2))]))) Try.func67 rfl Try.call67 rfl rfl ?_ r h
  unfold slices_Concat_int_int.f
  refine RS.go ?_
  refine RT.goto rfl ?_
  refine RS.weak [(0, sq e_L l0), (3, .int .i64 0), (9, sq e_L l0), (10, .int .i64 (l0.length : Int)), (11, .int .i64 0)] [] ⟨Le.eq (by first | rfl | simp), Le.eq (by first | rfl | simp), Le.eq (by first | rfl | simp), Le.eq (by first | rfl | simp), Le.eq (by first | rfl | simp), trivial⟩ trivial rfl (dom0 rfl) ?_
  exact (slices_Concat_int_int.loops k).2.2 l0 0 0 
def slices_Sort_int_int.f (l0 : List Int) : Option (List Int) := if l0.length < 4611686018427387904 then some (l0.mergeSort fun x y => decide (x ≤ y)) else none
theorem slices_Sort_int_int.ok (l0 r : List Int) (h : slices_Sort_int_int.f l0 = some r) : Ct Try.prog B 68 [.osl 100000 1 0 l0.length l0.length] (ofL [(100000, bufE eI l0)]) (.tup []) (ofL [(100000, bufE eI r)]) := by
  unfold slices_Sort_int_int.f at h
  split at h
  case isFalse => cases h
  case isTrue c =>
  cases h
  exact Ct.row (E := eI) (enc := Value.int .i64) rfl (fun _ => rfl) (by simp) Try.call68 (fun b cap w hH hb _ => (Try.slices_Sort_int b 0 cap l0 w hH hb c).mono fun e w' ⟨he, n, os, hw⟩ => ⟨he, n, os, hw⟩) (fun hl p w => by subst hl; exact Try.slices_Sort_int_none p 0 w)

def slices_Compact_int_int.f (l0 : List Int) : Option ((List Int) × (List Int)) := if l0.length ≤ 9223372036854775807 then some (Lib.compact l0, List.replicate (l0.length - (Lib.compact l0).length) 0) else none
theorem slices_Compact_int_int.ok (l0 : List Int) (r : (List Int) × (List Int)) (h : slices_Compact_int_int.f l0 = some r) : Ct Try.prog B 69 [.osl 100000 1 0 l0.length l0.length] (ofL [(100000, bufE eI l0)]) (.osl 100000 1 0 r.1.length (r.1 ++ r.2).length) (ofL [(100000, bufE eI (r.1 ++ r.2))]) := by
  unfold slices_Compact_int_int.f at h
  split at h
  case isFalse => cases h
  case isTrue c =>
  cases h
  have hle : (Lib.compact l0).length ≤ l0.length := by
    unfold Lib.compact Lib.compactUpTo
    rw [List.length_map]
    exact Nat.le_trans (List.length_filter_le _ _) (by simp)
  refine Ct.rowCut (E := eI) (enc := Value.int .i64) (l := l0) (a := Lib.compact l0) (t := List.replicate (l0.length - (Lib.compact l0).length) 0) rfl (fun _ => rfl) (by simp; omega) Try.call69 (fun b cap w hH hb hcap => (Try.slices_Compact_int b 0 cap l0 w hH c hcap).mono fun e w' ⟨he, n, hw⟩ => ⟨he, n, #[], by rw [Go.Sort.grow_empty]; exact hw⟩) (fun hl p w => by subst hl; exact Try.slices_Compact_int_empty p 0 w)

/-! ### rate_Ahead: function 28 -/
mutual
def rate_Ahead.j20 : Nat → List Int → List Int → Int → Int → Int → Int → List Int → Bool → List (Int × Int) → List Int → Option ((List (Int × Int)) × Int)
  | 0, _, _, _, _, _, _, _, _, _, _ => Option.none
  | k + 1, l0, l1, a2_0, a2_1, x40b, x41b, o35b, x16j20, o12j20, t35j20 => rate_Ahead.l1 k l0 l1 a2_0 a2_1 x16j20 x40b (wrap64 (x41b + 1)) o12j20 t35j20 o35b
def rate_Ahead.l1 : Nat → List Int → List Int → Int → Int → Bool → Int → Int → List (Int × Int) → List Int → List Int → Option ((List (Int × Int)) × Int)
  | 0, _, _, _, _, _, _, _, _, _, _ => Option.none
  | k + 1, l0, l1, a2_0, a2_1, x13b, x40b, x41b, o12b, t35b, o35b => (if x41b < x40b then (if 0 ≤ x41b then (if x41b < (o35b.length : Int) then ((rate_before.f k l0 (wrap64 ((rd o35b x41b) + 1))).bind fun r12 => ((rate_before.f k l1 (wrap64 ((rd o35b x41b) + 1))).bind fun r13 => (if r12 > r13 then (if x13b = true then (if r12 > r13 then rate_Ahead.j20 k l0 l1 a2_0 a2_1 x40b x41b o35b (decide (r12 > r13)) o12b t35b else (if x13b = true then (if 0 ≤ wrap64 ((o12b.length : Int) - 1) then (if wrap64 ((o12b.length : Int) - 1) < (o12b.length : Int) then rate_Ahead.j20 k l0 l1 a2_0 a2_1 x40b x41b o35b (decide (r12 > r13)) (o12b.set ((wrap64 ((o12b.length : Int) - 1))).toNat ((rdE e_II o12b (wrap64 ((o12b.length : Int) - 1))).1, (rd o35b x41b))) t35b else Option.none) else Option.none) else rate_Ahead.j20 k l0 l1 a2_0 a2_1 x40b x41b o35b (decide (r12 > r13)) o12b t35b)) else (if o12b.length + 1 ≤ 549755813888 then rate_Ahead.j20 k l0 l1 a2_0 a2_1 x40b x41b o35b (decide (r12 > r13)) (o12b ++ [((rd o35b x41b), a2_1)]) t35b else Option.none)) else (if r12 > r13 then rate_Ahead.j20 k l0 l1 a2_0 a2_1 x40b x41b o35b (decide (r12 > r13)) o12b t35b else (if x13b = true then (if 0 ≤ wrap64 ((o12b.length : Int) - 1) then (if wrap64 ((o12b.length : Int) - 1) < (o12b.length : Int) then rate_Ahead.j20 k l0 l1 a2_0 a2_1 x40b x41b o35b (decide (r12 > r13)) (o12b.set ((wrap64 ((o12b.length : Int) - 1))).toNat ((rdE e_II o12b (wrap64 ((o12b.length : Int) - 1))).1, (rd o35b x41b))) t35b else Option.none) else Option.none) else rate_Ahead.j20 k l0 l1 a2_0 a2_1 x40b x41b o35b (decide (r12 > r13)) o12b t35b))))) else Option.none) else Option.none) else Option.some (o12b, 0))
def rate_Ahead.l0 : Nat → List Int → List Int → Int → Int → Int → Option ((List (Int × Int)) × Int)
  | 0, _, _, _, _, _ => Option.none
  | k + 1, l0, l1, a2_0, a2_1, x21 => (if x21 < ([l0, l1].length : Int) then (if 0 ≤ x21 then (if x21 < ([l0, l1].length : Int) then ((rate_CheckTimes.f k (rdE e_L [l0, l1] x21) a2_0 a2_1).bind fun r3 => (if r3 = 0 then rate_Ahead.l0 k l0 l1 a2_0 a2_1 (wrap64 (x21 + 1)) else Option.some ([], r3))) else Option.none) else Option.none) else ((slices_Concat_int_int.f k [l0, l1]).bind fun r5 => (if r5.2.length = 0 then ((slices_Sort_int_int.f r5.1).bind fun r7 => (if r5.1.length = r7.length then ((slices_Compact_int_int.f r7).bind fun r9 => rate_Ahead.l1 k l0 l1 a2_0 a2_1 false (r9.1.length : Int) 0 [] r9.2 r9.1) else Option.none)) else Option.none)))
end
def rate_Ahead.f (k : Nat) (l0 : List Int) (l1 : List Int) (a2_0 : Int) (a2_1 : Int) : Option ((List (Int × Int)) × Int) := rate_Ahead.l0 k l0 l1 a2_0 a2_1 0
theorem rate_Ahead.loops : ∀ k, (∀ (l0 : List Int) (l1 : List Int) (a2_0 : Int) (a2_1 : Int) (x40b : Int) (x41b : Int) (o35b : List Int) (x16j20 : Bool) (o12j20 : List (Int × Int)) (t35j20 : List Int), RS (fam Try.f28 [20, 1000044] [] [] (fun r : (List (Int × Int)) × Int => .tup [sq e_II r.1, .int .i64 r.2]) (fun r => [])) (Func.reg Try.f28 20) ⟨ofT [(0, sq eI l0), (1, sq eI l1), (5, .ref 5 0 0 0 2), (12, .osl 12 e_II.w 0 o12j20.length o12j20.length), (16, .bool x16j20), (39, .osl 35 eI.w 0 o35b.length (o35b ++ t35j20).length), (40, .int .i64 x40b), (41, .int .i64 x41b)], ofL [(5, .box [.int .i64 a2_0, .int .i64 a2_1]), (12, bufE e_II o12j20), (35, bufE eI (o35b ++ t35j20))]⟩ (rate_Ahead.j20 k l0 l1 a2_0 a2_1 x40b x41b o35b x16j20 o12j20 t35j20)) ∧ (∀ (l0 : List Int) (l1 : List Int) (a2_0 : Int) (a2_1 : Int) (x13b : Bool) (x40b : Int) (x41b : Int) (o12b : List (Int × Int)) (t35b : List Int) (o35b : List Int), RS (fam Try.f28 [20, 1000044] [] [] (fun r : (List (Int × Int)) × Int => .tup [sq e_II r.1, .int .i64 r.2]) (fun r => [])) (Func.head Try.f28 1) ⟨ofT [(0, sq eI l0), (1, sq eI l1), (5, .ref 5 0 0 0 2), (12, .osl 12 e_II.w 0 o12b.length o12b.length), (13, .bool x13b), (39, .osl 35 eI.w 0 o35b.length (o35b ++ t35b).length), (40, .int .i64 x40b), (41, .int .i64 x41b)], ofL [(5, .box [.int .i64 a2_0, .int .i64 a2_1]), (12, bufE e_II o12b), (35, bufE eI (o35b ++ t35b))]⟩ (rate_Ahead.l1 k l0 l1 a2_0 a2_1 x13b x40b x41b o12b t35b o35b)) ∧ (∀ (l0 : List Int) (l1 : List Int) (a2_0 : Int) (a2_1 : Int) (x21 : Int), RS (fam Try.f28 [20, 1000044] [] [] (fun r : (List (Int × Int)) × Int => .tup [sq e_II r.1, .int .i64 r.2]) (fun r => [])) (Func.head Try.f28 0) ⟨ofT [(0, sq eI l0), (1, sq eI l1), (5, .ref 5 0 0 0 2), (19, sq e_L [l0, l1]), (20, .int .i64 ([l0, l1].length : Int)), (21, .int .i64 x21)], ofL [(5, .box [.int .i64 a2_0, .int .i64 a2_1])]⟩ (rate_Ahead.l0 k l0 l1 a2_0 a2_1 x21))
  | 0 => ⟨by intro _ _ _ _ _ _ _ _ _ _; simp only [rate_Ahead.j20]; exact RS.none, by intro _ _ _ _ _ _ _ _ _ _; simp only [rate_Ahead.l1]; exact RS.none, by intro _ _ _ _ _; simp only [rate_Ahead.l0]; exact RS.none⟩
  | k + 1 => by
    have ih := rate_Ahead.loops k
    refine ⟨?_, ?_, ?_⟩
    · intro l0 l1 a2_0 a2_1 x40b x41b o35b x16j20 o12j20 t35j20
      simp only [rate_Ahead.j20]
      refine RS.region ?_
      refine RS.go ?_
      refine RT.goto rfl ?_
      refine RS.weak [(0, sq eI l0), (1, sq eI l1), (5, .ref 5 0 0 0 2), (12, .osl 12 e_II.w 0 o12j20.length o12j20.length), (13, .bool x16j20), (39, .osl 35 eI.w 0 o35b.length (o35b ++ t35j20).length), (40, .int .i64 x40b), (41, .int .i64 (wrap64 (x41b + 1)))] [(5, .box [.int .i64 a2_0, .int .i64 a2_1]), (12, bufE e_II o12j20), (35, bufE eI (o35b ++ t35j20))] ⟨Le.eq (by first | rfl | simp), Le.eq (by first | rfl | simp), Le.eq (by first | rfl | simp), (by first | exact Le.oslN rfl (by first | rfl | simp) | exact Le.refl _ | exact Le.eq (by first | rfl | simp)), Le.eq (by first | rfl | simp), Le.osl2 rfl rfl (by first | rfl | simp) (by first | rfl | simp), Le.eq (by first | rfl | simp), Le.eq (by first | rfl | simp), trivial⟩ ⟨⟨_, rfl, LeO.refl _⟩, ⟨_, rfl, LeO.refl _⟩, ⟨_, rfl, by first | exact LeO.refl _ | exact LeO.room0⟩, trivial⟩ rfl (dom0 rfl) ?_
      exact ih.2.1 l0 l1 a2_0 a2_1 x16j20 x40b (wrap64 (x41b + 1)) o12j20 t35j20 o35b 
    · intro l0 l1 a2_0 a2_1 x13b x40b x41b o12b t35b o35b
      simp only [rate_Ahead.l1]
      refine RS.go ?_
      refine RT.br rfl (fun c25 => ?_) (fun c25 => ?_)
      · refine RT.req rfl (by first | exact Nat.zero_add _ | rfl | simp) ?_
        refine RT.br rfl (fun c10 => ?_) (fun c10 => RT.none)
        refine RT.br rfl (fun c11 => ?_) (fun c11 => RT.none)
        refine RT.req rfl ⟨by first | rfl | simp, elt_lt c10 (le_room2 c11)⟩ ?_
        refine RT.goto rfl ?_
        refine RS.slot 44 (.int .i64 (rd o35b x41b)) (Le.eq (congrArg (AV.int .i64) (rdE_pre (E := eI) c10 c11))) ?_
        refine RS.go ?_
        refine RT.call0 rfl (fun _ h => rate_before.ok k l0 (wrap64 ((rd o35b x41b) + 1)) _ h) (LeL.eq rfl) (fun _ => rfl) (fun r12 => ?_)
        refine RS.go ?_
        refine RT.call0 rfl (fun _ h => rate_before.ok k l1 (wrap64 ((rd o35b x41b) + 1)) _ h) (LeL.eq rfl) (fun _ => rfl) (fun r13 => ?_)
        refine RS.go ?_
        refine RT.br rfl (fun c24 => ?_) (fun c24 => ?_)
        · refine RT.brT rfl ?_
          refine RT.brT rfl ?_
          refine RT.brBN rfl (fun c19 => ?_) (fun c19 => ?_)
          · refine RT.brN rfl (fun c18 => ?_) (fun c18 => ?_)
            · refine RT.brF rfl ?_
              refine RT.brF rfl ?_
              refine RT.goto rfl ?_
              refine RS.weak [(0, sq eI l0), (1, sq eI l1), (5, .ref 5 0 0 0 2), (12, .osl 12 e_II.w 0 o12b.length o12b.length), (16, .bool (decide (r12 > r13))), (39, .osl 35 eI.w 0 o35b.length (o35b ++ t35b).length), (40, .int .i64 x40b), (41, .int .i64 x41b)] [(5, .box [.int .i64 a2_0, .int .i64 a2_1]), (12, bufE e_II o12b), (35, bufE eI (o35b ++ t35b))] ⟨Le.eq (by first | rfl | simp), Le.eq (by first | rfl | simp), Le.eq (by first | rfl | simp), (by first | exact Le.oslN rfl (by first | rfl | simp) | exact Le.refl _ | exact Le.eq (by first | rfl | simp)), Le.eq (by first | rfl | simp), Le.osl2 rfl rfl (by first | rfl | simp) (by first | rfl | simp), Le.eq (by first | rfl | simp), Le.eq (by first | rfl | simp), trivial⟩ ⟨⟨_, rfl, LeO.refl _⟩, ⟨_, rfl, LeO.refl _⟩, ⟨_, rfl, by first | exact LeO.refl _ | exact LeO.room0⟩, trivial⟩ rfl (dom0 rfl) ?_
              exact ih.1 l0 l1 a2_0 a2_1 x40b x41b o35b (decide (r12 > r13)) o12b t35b 
            · refine RT.brT rfl ?_
              refine RT.brB rfl (fun c17 => ?_) (fun c17 => ?_)
              · refine RT.req rfl (by first | exact Nat.zero_add _ | rfl | simp [szf, szOf]) ?_
                refine RT.req rfl (by first | exact Nat.zero_add _ | rfl | simp) ?_
                refine RT.br rfl (fun c15 => ?_) (fun c15 => RT.none)
                refine RT.br rfl (fun c16 => ?_) (fun c16 => RT.none)
                refine RT.req rfl (by first | rfl | simp) ?_
                refine RT.req rfl ⟨by first | rfl | simp, elt_lt c15 (by first | exact c16 | simpa using c16)⟩ ?_
                refine RT.goto rfl ?_
                refine RS.obj 12 (bufE e_II (o12b.set ((wrap64 ((o12b.length : Int) - 1))).toNat ((rdE e_II o12b (wrap64 ((o12b.length : Int) - 1))).1, (rd o35b x41b)))) ⟨_, rfl, LeO.setE c15 (by first | exact c16 | simpa using c16) (all2 rfl rfl)⟩ ?_
                refine RS.go ?_
                refine RT.goto rfl ?_
                refine RS.weak [(0, sq eI l0), (1, sq eI l1), (5, .ref 5 0 0 0 2), (12, .osl 12 e_II.w 0 (o12b.set ((wrap64 ((o12b.length : Int) - 1))).toNat ((rdE e_II o12b (wrap64 ((o12b.length : Int) - 1))).1, (rd o35b x41b))).length (o12b.set ((wrap64 ((o12b.length : Int) - 1))).toNat ((rdE e_II o12b (wrap64 ((o12b.length : Int) - 1))).1, (rd o35b x41b))).length), (16, .bool (decide (r12 > r13))), (39, .osl 35 eI.w 0 o35b.length (o35b ++ t35b).length), (40, .int .i64 x40b), (41, .int .i64 x41b)] [(5, .box [.int .i64 a2_0, .int .i64 a2_1]), (12, bufE e_II (o12b.set ((wrap64 ((o12b.length : Int) - 1))).toNat ((rdE e_II o12b (wrap64 ((o12b.length : Int) - 1))).1, (rd o35b x41b)))), (35, bufE eI (o35b ++ t35b))] ⟨Le.eq (by first | rfl | simp), Le.eq (by first | rfl | simp), Le.eq (by first | rfl | simp), (by first | exact Le.oslN rfl (by first | rfl | simp) | exact Le.refl _ | exact Le.eq (by first | rfl | simp)), Le.eq (by first | rfl | simp), Le.osl2 rfl rfl (by first | rfl | simp) (by first | rfl | simp), Le.eq (by first | rfl | simp), Le.eq (by first | rfl | simp), trivial⟩ ⟨⟨_, rfl, LeO.refl _⟩, ⟨_, rfl, LeO.refl _⟩, ⟨_, rfl, by first | exact LeO.refl _ | exact LeO.room0⟩, trivial⟩ rfl (dom0 rfl) ?_
                exact ih.1 l0 l1 a2_0 a2_1 x40b x41b o35b (decide (r12 > r13)) (o12b.set ((wrap64 ((o12b.length : Int) - 1))).toNat ((rdE e_II o12b (wrap64 ((o12b.length : Int) - 1))).1, (rd o35b x41b))) t35b 
              · refine RT.goto rfl ?_
                refine RS.weak [(0, sq eI l0), (1, sq eI l1), (5, .ref 5 0 0 0 2), (12, .osl 12 e_II.w 0 o12b.length o12b.length), (16, .bool (decide (r12 > r13))), (39, .osl 35 eI.w 0 o35b.length (o35b ++ t35b).length), (40, .int .i64 x40b), (41, .int .i64 x41b)] [(5, .box [.int .i64 a2_0, .int .i64 a2_1]), (12, bufE e_II o12b), (35, bufE eI (o35b ++ t35b))] ⟨Le.eq (by first | rfl | simp), Le.eq (by first | rfl | simp), Le.eq (by first | rfl | simp), (by first | exact Le.oslN rfl (by first | rfl | simp) | exact Le.refl _ | exact Le.eq (by first | rfl | simp)), Le.eq (by first | rfl | simp), Le.osl2 rfl rfl (by first | rfl | simp) (by first | rfl | simp), Le.eq (by first | rfl | simp), Le.eq (by first | rfl | simp), trivial⟩ ⟨⟨_, rfl, LeO.refl _⟩, ⟨_, rfl, LeO.refl _⟩, ⟨_, rfl, by first | exact LeO.refl _ | exact LeO.room0⟩, trivial⟩ rfl (dom0 rfl) ?_
                exact ih.1 l0 l1 a2_0 a2_1 x40b x41b o35b (decide (r12 > r13)) o12b t35b 
          · refine RT.goto rfl ?_
            refine RS.slot 65 (sq e_II [((rd o35b x41b), a2_1)]) (Le.lit (E := e_II) (l := [((rd o35b x41b), a2_1)]) (cells_of rfl)) ?_
            refine RS.go ?_
            refine RT.req rfl ⟨by first | rfl | simp, by first | exact Nat.le_refl _ | simp⟩ ?_
            refine RT.not rfl (by simp <;> omega) ?_
            refine RT.br rfl (fun c14 => ?_) (fun _ => RT.none)
            refine RT.goto rfl ?_
            refine RS.obj 12 (bufE e_II (o12b ++ [((rd o35b x41b), a2_1)])) ⟨_, rfl, LeO.app (l := o12b) (m := [((rd o35b x41b), a2_1)]) fun _ _ _ _ => rfl⟩ ?_
            refine RS.slot 66 (.osl 12 e_II.w 0 (o12b ++ [((rd o35b x41b), a2_1)]).length (o12b ++ [((rd o35b x41b), a2_1)]).length) (by first | exact Le.oslN rfl (by simp) | exact Le.trans (y := .osl 12 e_II.w 0 (o12b.length + 1) (o12b.length + 1)) (Le.refl _) (Le.oslN rfl (by simp))) ?_
            refine RS.go ?_
            refine RT.goto rfl ?_
            refine RS.weak [(0, sq eI l0), (1, sq eI l1), (5, .ref 5 0 0 0 2), (12, .osl 12 e_II.w 0 (o12b ++ [((rd o35b x41b), a2_1)]).length (o12b ++ [((rd o35b x41b), a2_1)]).length), (16, .bool (decide (r12 > r13))), (39, .osl 35 eI.w 0 o35b.length (o35b ++ t35b).length), (40, .int .i64 x40b), (41, .int .i64 x41b)] [(5, .box [.int .i64 a2_0, .int .i64 a2_1]), (12, bufE e_II (o12b ++ [((rd o35b x41b), a2_1)])), (35, bufE eI (o35b ++ t35b))] ⟨Le.eq (by first | rfl | simp), Le.eq (by first | rfl | simp), Le.eq (by first | rfl | simp), (by first | exact Le.oslN rfl (by first | rfl | simp) | exact Le.refl _ | exact Le.eq (by first | rfl | simp)), Le.eq (by first | rfl | simp), Le.osl2 rfl rfl (by first | rfl | simp) (by first | rfl | simp), Le.eq (by first | rfl | simp), Le.eq (by first | rfl | simp), trivial⟩ ⟨⟨_, rfl, LeO.refl _⟩, ⟨_, rfl, LeO.refl _⟩, ⟨_, rfl, by first | exact LeO.refl _ | exact LeO.room0⟩, trivial⟩ rfl (dom0 rfl) ?_
            exact ih.1 l0 l1 a2_0 a2_1 x40b x41b o35b (decide (r12 > r13)) (o12b ++ [((rd o35b x41b), a2_1)]) t35b 
        · refine RT.brF rfl ?_
          refine RT.brF rfl ?_
          refine RT.brF rfl ?_
          refine RT.brN rfl (fun c23 => ?_) (fun c23 => ?_)
          · refine RT.brF rfl ?_
            refine RT.brF rfl ?_
            refine RT.goto rfl ?_
            refine RS.weak [(0, sq eI l0), (1, sq eI l1), (5, .ref 5 0 0 0 2), (12, .osl 12 e_II.w 0 o12b.length o12b.length), (16, .bool (decide (r12 > r13))), (39, .osl 35 eI.w 0 o35b.length (o35b ++ t35b).length), (40, .int .i64 x40b), (41, .int .i64 x41b)] [(5, .box [.int .i64 a2_0, .int .i64 a2_1]), (12, bufE e_II o12b), (35, bufE eI (o35b ++ t35b))] ⟨Le.eq (by first | rfl | simp), Le.eq (by first | rfl | simp), Le.eq (by first | rfl | simp), (by first | exact Le.oslN rfl (by first | rfl | simp) | exact Le.refl _ | exact Le.eq (by first | rfl | simp)), Le.eq (by first | rfl | simp), Le.osl2 rfl rfl (by first | rfl | simp) (by first | rfl | simp), Le.eq (by first | rfl | simp), Le.eq (by first | rfl | simp), trivial⟩ ⟨⟨_, rfl, LeO.refl _⟩, ⟨_, rfl, LeO.refl _⟩, ⟨_, rfl, by first | exact LeO.refl _ | exact LeO.room0⟩, trivial⟩ rfl (dom0 rfl) ?_
            exact ih.1 l0 l1 a2_0 a2_1 x40b x41b o35b (decide (r12 > r13)) o12b t35b 
          · refine RT.brT rfl ?_
            refine RT.brB rfl (fun c22 => ?_) (fun c22 => ?_)
            · refine RT.req rfl (by first | exact Nat.zero_add _ | rfl | simp [szf, szOf]) ?_
              refine RT.req rfl (by first | exact Nat.zero_add _ | rfl | simp) ?_
              refine RT.br rfl (fun c20 => ?_) (fun c20 => RT.none)
              refine RT.br rfl (fun c21 => ?_) (fun c21 => RT.none)
              refine RT.req rfl (by first | rfl | simp) ?_
              refine RT.req rfl ⟨by first | rfl | simp, elt_lt c20 (by first | exact c21 | simpa using c21)⟩ ?_
              refine RT.goto rfl ?_
              refine RS.obj 12 (bufE e_II (o12b.set ((wrap64 ((o12b.length : Int) - 1))).toNat ((rdE e_II o12b (wrap64 ((o12b.length : Int) - 1))).1, (rd o35b x41b)))) ⟨_, rfl, LeO.setE c20 (by first | exact c21 | simpa using c21) (all2 rfl rfl)⟩ ?_
              refine RS.go ?_
              refine RT.goto rfl ?_
              refine RS.weak [(0, sq eI l0), (1, sq eI l1), (5, .ref 5 0 0 0 2), (12, .osl 12 e_II.w 0 (o12b.set ((wrap64 ((o12b.length : Int) - 1))).toNat ((rdE e_II o12b (wrap64 ((o12b.length : Int) - 1))).1, (rd o35b x41b))).length (o12b.set ((wrap64 ((o12b.length : Int) - 1))).toNat ((rdE e_II o12b (wrap64 ((o12b.length : Int) - 1))).1, (rd o35b x41b))).length), (16, .bool (decide (r12 > r13))), (39, .osl 35 eI.w 0 o35b.length (o35b ++ t35b).length), (40, .int .i64 x40b), (41, .int .i64 x41b)] [(5, .box [.int .i64 a2_0, .int .i64 a2_1]), (12, bufE e_II (o12b.set ((wrap64 ((o12b.length : Int) - 1))).toNat ((rdE e_II o12b (wrap64 ((o12b.length : Int) - 1))).1, (rd o35b x41b)))), (35, bufE eI (o35b ++ t35b))] ⟨Le.eq (by first | rfl | simp), Le.eq (by first | rfl | simp), Le.eq (by first | rfl | simp), (by first | exact Le.oslN rfl (by first | rfl | simp) | exact Le.refl _ | exact Le.eq (by first | rfl | simp)), Le.eq (by first | rfl | simp), Le.osl2 rfl rfl (by first | rfl | simp) (by first | rfl | simp), Le.eq (by first | rfl | simp), Le.eq (by first | rfl | simp), trivial⟩ ⟨⟨_, rfl, LeO.refl _⟩, ⟨_, rfl, LeO.refl _⟩, ⟨_, rfl, by first | exact LeO.refl _ | exact LeO.room0⟩, trivial⟩ rfl (dom0 rfl) ?_
              exact ih.1 l0 l1 a2_0 a2_1 x40b x41b o35b (decide (r12 > r13)) (o12b.set ((wrap64 ((o12b.length : Int) - 1))).toNat ((rdE e_II o12b (wrap64 ((o12b.length : Int) - 1))).1, (rd o35b x41b))) t35b 
            · refine RT.goto rfl ?_
              refine RS.weak [(0, sq eI l0), (1, sq eI l1), (5, .ref 5 0 0 0 2), (12, .osl 12 e_II.w 0 o12b.length o12b.length), (16, .bool (decide (r12 > r13))), (39, .osl 35 eI.w 0 o35b.length (o35b ++ t35b).length), (40, .int .i64 x40b), (41, .int .i64 x41b)] [(5, .box [.int .i64 a2_0, .int .i64 a2_1]), (12, bufE e_II o12b), (35, bufE eI (o35b ++ t35b))] ⟨Le.eq (by first | rfl | simp), Le.eq (by first | rfl | simp), Le.eq (by first | rfl | simp), (by first | exact Le.oslN rfl (by first | rfl | simp) | exact Le.refl _ | exact Le.eq (by first | rfl | simp)), Le.eq (by first | rfl | simp), Le.osl2 rfl rfl (by first | rfl | simp) (by first | rfl | simp), Le.eq (by first | rfl | simp), Le.eq (by first | rfl | simp), trivial⟩ ⟨⟨_, rfl, LeO.refl _⟩, ⟨_, rfl, LeO.refl _⟩, ⟨_, rfl, by first | exact LeO.refl _ | exact LeO.room0⟩, trivial⟩ rfl (dom0 rfl) ?_
              exact ih.1 l0 l1 a2_0 a2_1 x40b x41b o35b (decide (r12 > r13)) o12b t35b 
      · refine RT.freeze 12 _ _ _ [(6, sq e_II o12b), (7, .int .i64 0)] [] rfl rfl ⟨.inr ⟨_, rfl, by first | exact Nat.le_refl _ | simp, rfl⟩, .inl (Le.refl _), trivial⟩ trivial rfl (dom0 rfl) ?_
        exact RT.done rfl rfl (Le.tup (LeL.cons (Le.refl _) (LeL.cons (Le.refl _) (LeL.nil)))) trivial rfl (dom0 rfl)
    · intro l0 l1 a2_0 a2_1 x21
      simp only [rate_Ahead.l0]
      refine RS.go ?_
      refine RT.br rfl (fun c26 => ?_) (fun c26 => ?_)
      · refine RT.br rfl (fun c1 => ?_) (fun c1 => RT.none)
        refine RT.br rfl (fun c2 => ?_) (fun c2 => RT.none)
        refine RT.call0 rfl (fun _ h => rate_CheckTimes.ok k (rdE e_L [l0, l1] x21) a2_0 a2_1 _ h) (LeL.eq rfl) (fun _ => rfl) (fun r3 => ?_)
        refine RS.go ?_
        refine RT.brN rfl (fun c4 => ?_) (fun c4 => ?_)
        · refine RT.goto rfl ?_
          refine RS.weak [(0, sq eI l0), (1, sq eI l1), (5, .ref 5 0 0 0 2), (19, sq e_L [l0, l1]), (20, .int .i64 ([l0, l1].length : Int)), (21, .int .i64 (wrap64 (x21 + 1)))] [(5, .box [.int .i64 a2_0, .int .i64 a2_1])] ⟨Le.eq (by first | rfl | simp), Le.eq (by first | rfl | simp), Le.eq (by first | rfl | simp), Le.eq (by first | rfl | simp), Le.eq (by first | rfl | simp), Le.eq (by first | rfl | simp), trivial⟩ ⟨⟨_, rfl, LeO.refl _⟩, trivial⟩ rfl (dom0 rfl) ?_
          exact ih.2.2 l0 l1 a2_0 a2_1 (wrap64 (x21 + 1)) 
        · exact RT.done rfl rfl (Le.tup (LeL.cons (Le.nil _ _) (LeL.cons (Le.refl _) (LeL.nil)))) trivial rfl (dom0 rfl)
      · refine RT.goto rfl ?_
        refine RS.slot 34 (sq e_L [l0, l1]) (Le.lit (E := e_L) (l := [l0, l1]) (cells_of rfl)) ?_
        refine RS.go ?_
        refine RT.call rfl (fun _ h => slices_Concat_int_int.ok k [l0, l1] _ h) (fun i => bif Nat.beq i 24 then 35 else i) (LeL.eq rfl) trivial (fun _ => rfl) (fun r5 => ?_)
        refine RS.asm (fun c6 => ?_)
        refine RS.obj 35 (bufE eI r5.1) ⟨_, rfl, LeO.t0 c6⟩ ?_
        refine RS.slot 35 (.osl 35 eI.w 0 r5.1.length r5.1.length) (Le.osl2 rfl rfl rfl (len_t0 c6)) ?_
        refine RS.go ?_
        refine RT.call rfl (fun _ h => slices_Sort_int_int.ok r5.1 _ h) (fun i => bif Nat.beq i 100000 then 35 else i) (LeL.eq rfl) ⟨⟨_, rfl, LeO.refl _⟩, trivial⟩ (fun _ => rfl) (fun r7 => ?_)
        refine RS.asm (fun c8 => ?_)
        refine RS.slot 35 (.osl 35 eI.w 0 r7.length r7.length) (Le.oslN rfl c8) ?_
        refine RS.slot 11 (.osl 35 eI.w 0 r7.length r7.length) (Le.oslN rfl c8) ?_
        refine RS.slot 36 (.osl 35 eI.w 0 r7.length r7.length) (Le.oslN rfl c8) ?_
        refine RS.go ?_
        refine RT.call rfl (fun _ h => slices_Compact_int_int.ok r7 _ h) (fun i => bif Nat.beq i 100000 then 35 else i) (LeL.eq rfl) ⟨⟨_, rfl, LeO.refl _⟩, trivial⟩ (fun _ => rfl) (fun r9 => ?_)
        refine RS.go ?_
        refine RT.req rfl (by first | exact Nat.zero_add _ | rfl | simp [szf, szOf]) ?_
        refine RT.goto rfl ?_
        refine RS.ghost 12 12 e_II.w (rep e_II []) rfl rfl ?_
        refine RS.weak [(0, sq eI l0), (1, sq eI l1), (5, .ref 5 0 0 0 2), (12, .osl 12 e_II.w 0 ([] : List (Int × Int)).length ([] : List (Int × Int)).length), (13, .bool false), (39, .osl 35 eI.w 0 r9.1.length (r9.1 ++ r9.2).length), (40, .int .i64 (r9.1.length : Int)), (41, .int .i64 0)] [(5, .box [.int .i64 a2_0, .int .i64 a2_1]), (12, bufE e_II ([] : List (Int × Int))), (35, bufE eI (r9.1 ++ r9.2))] ⟨Le.eq (by first | rfl | simp), Le.eq (by first | rfl | simp), Le.eq (by first | rfl | simp), (by first | exact Le.oslN rfl (by first | rfl | simp) | exact Le.refl _ | exact Le.eq (by first | rfl | simp)), Le.eq (by first | rfl | simp), Le.osl2 rfl rfl (by first | rfl | simp) (by first | rfl | simp), Le.eq (by first | rfl | simp), Le.eq (by first | rfl | simp), trivial⟩ ⟨⟨_, rfl, LeO.refl _⟩, ⟨_, rfl, LeO.refl _⟩, ⟨_, rfl, by first | exact LeO.refl _ | exact LeO.room0⟩, trivial⟩ rfl (dom0 rfl) ?_
        exact ih.2.1 l0 l1 a2_0 a2_1 false (r9.1.length : Int) 0 [] r9.2 r9.1 
theorem rate_Ahead.ok (k : Nat) (l0 : List Int) (l1 : List Int) (a2_0 : Int) (a2_1 : Int) (r : (List (Int × Int)) × Int) (h : rate_Ahead.f k l0 l1 a2_0 a2_1 = some r) : Ct Try.prog B 28 [sq eI l0, sq eI l1, .agg [.int .i64 a2_0, .int .i64 a2_1]] (ofL []) (.tup [sq e_II r.1, .int .i64 r.2]) (ofL []) := by
  refine Ct.of (Y := (fam Try.f28 [20, 1000044] [] [] (fun r : (List (Int × Int)) × Int => .tup [sq e_II r.1, .int .i64 r.2]) (fun r => []))) Try.func28 rfl Try.call28 rfl rfl ?_ r h
  unfold rate_Ahead.f
  refine RS.go ?_
  refine RT.goto rfl ?_
  refine RS.slot 19 (sq e_L [l0, l1]) (Le.lit (E := e_L) (l := [l0, l1]) (cells_of rfl)) ?_
  refine RS.go ?_
  refine RT.goto rfl ?_
  refine RS.weak [(0, sq eI l0), (1, sq eI l1), (5, .ref 5 0 0 0 2), (19, sq e_L [l0, l1]), (20, .int .i64 ([l0, l1].length : Int)), (21, .int .i64 0)] [(5, .box [.int .i64 a2_0, .int .i64 a2_1])] ⟨Le.eq (by first | rfl | simp), Le.eq (by first | rfl | simp), Le.eq (by first | rfl | simp), Le.eq (by first | rfl | simp), Le.eq (by first | rfl | simp), Le.eq (by first | rfl | simp), trivial⟩ ⟨⟨_, rfl, LeO.refl _⟩, trivial⟩ rfl (dom0 rfl) ?_
  exact (rate_Ahead.loops k).2.2 l0 l1 a2_0 a2_1 0 
/-! ### pileref1_in: function 70 -/
def pileref1_in.f (a0 : Int) (a1 : Int) (a2 : Int) : Option (Bool) := (if a1 ≤ a0 then Option.some (decide (a0 ≤ a2)) else Option.some false)
theorem pileref1_in.ok (a0 : Int) (a1 : Int) (a2 : Int) (r : Bool) (h : pileref1_in.f a0 a1 a2 = some r) : Ct Try.prog B 70 [.int .i64 a0, .int .i64 a1, .int .i64 a2] (ofL []) (.bool r) (ofL []) := by
  refine Ct.of (Y := (fam Try.f70 [] [] [] (fun r : Bool => .bool r) (fun r => []))) Try.func70 rfl Try.call70 rfl rfl ?_ r h
  unfold pileref1_in.f
  refine RS.go ?_
  refine RT.br rfl (fun c1 => ?_) (fun c1 => ?_)
  · refine RT.brT rfl ?_
    refine RT.brT rfl ?_
    refine RT.brT rfl ?_
    exact RT.done rfl rfl (Le.refl _) trivial rfl (dom0 rfl)
  · refine RT.brF rfl ?_
    refine RT.brF rfl ?_
    refine RT.brF rfl ?_
    exact RT.done rfl rfl (Le.refl _) trivial rfl (dom0 rfl)
/-! ### pileref1_SpanFault: function 29 -/
def pileref1_SpanFault.f (a0 : Int) (a1 : Int) (a2 : Int) : Option (Int) := ((pileref1_in.f a0 a1 a2).bind fun r1 => (if r1 = true then Option.some 0 else Option.some 1))
theorem pileref1_SpanFault.ok (a0 : Int) (a1 : Int) (a2 : Int) (r : Int) (h : pileref1_SpanFault.f a0 a1 a2 = some r) : Ct Try.prog B 29 [.int .i64 a0, .int .i64 a1, .int .i64 a2] (ofL []) (.int .i64 r) (ofL []) := by
  refine Ct.of (Y := (fam Try.f29 [] [] [] (fun r : Int => .int .i64 r) (fun r => []))) Try.func29 rfl Try.call29 rfl rfl ?_ r h
  unfold pileref1_SpanFault.f
  refine RS.go ?_
  refine RT.call0 rfl (fun _ h => pileref1_in.ok a0 a1 a2 _ h) (LeL.eq rfl) (fun _ => rfl) (fun r1 => ?_)
  refine RS.go ?_
  refine RT.brBN rfl (fun c2 => ?_) (fun c2 => ?_)
  · exact RT.done rfl rfl (Le.refl _) trivial rfl (dom0 rfl)
  · exact RT.done rfl rfl (Le.refl _) trivial rfl (dom0 rfl)
/-! ### cmp_Or_api_Errno: function 10 -/
def cmp_Or_api_Errno.l0 : Nat → List Int → Int → Option (Int)
  | 0, _, _ => Option.none
  | k + 1, l0, x8 => (if x8 < (l0.length : Int) then (if 0 ≤ x8 then (if x8 < (l0.length : Int) then (if (rd l0 x8) = 0 then cmp_Or_api_Errno.l0 k l0 (wrap64 (x8 + 1)) else Option.some (rd l0 x8)) else Option.none) else Option.none) else Option.some 0)
def cmp_Or_api_Errno.f (k : Nat) (l0 : List Int) : Option (Int) := cmp_Or_api_Errno.l0 k l0 0
theorem cmp_Or_api_Errno.loops : ∀ k, (∀ (l0 : List Int) (x8 : Int), RS (fam Try.f10 [] [] [] (fun r : Int => .int .i64 r) (fun r => [])) (Func.head Try.f10 0) ⟨ofT [(3, .int .i64 0), (6, sq eI l0), (7, .int .i64 (l0.length : Int)), (8, .int .i64 x8)], ofL []⟩ (cmp_Or_api_Errno.l0 k l0 x8))
  | 0 => by intro _ _; simp only [cmp_Or_api_Errno.l0]; exact RS.none
  | k + 1 => by
    have ih := cmp_Or_api_Errno.loops k
    · intro l0 x8
      simp only [cmp_Or_api_Errno.l0]
      refine RS.go ?_
      refine RT.br rfl (fun c4 => ?_) (fun c4 => ?_)
      · refine RT.br rfl (fun c1 => ?_) (fun c1 => RT.none)
        refine RT.br rfl (fun c2 => ?_) (fun c2 => RT.none)
        refine RT.brN rfl (fun c3 => ?_) (fun c3 => ?_)
        · refine RT.goto rfl ?_
          refine RS.weak [(3, .int .i64 0), (6, sq eI l0), (7, .int .i64 (l0.length : Int)), (8, .int .i64 (wrap64 (x8 + 1)))] [] ⟨Le.eq (by first | rfl | simp), Le.eq (by first | rfl | simp), Le.eq (by first | rfl | simp), Le.eq (by first | rfl | simp), trivial⟩ trivial rfl (dom0 rfl) ?_
          exact ih l0 (wrap64 (x8 + 1)) 
        · exact RT.done rfl rfl (Le.refl _) trivial rfl (dom0 rfl)
      · exact RT.done rfl rfl (Le.refl _) trivial rfl (dom0 rfl)
theorem cmp_Or_api_Errno.ok (k : Nat) (l0 : List Int) (r : Int) (h : cmp_Or_api_Errno.f k l0 = some r) : Ct Try.prog B 10 [sq eI l0] (ofL []) (.int .i64 r) (ofL []) := by
  refine Ct.of (Y := (fam Try.f10 [] [] [] (fun r : Int => .int .i64 r) (fun r => []))) Try.func10 rfl Try.call10 rfl rfl ?_ r h
  unfold cmp_Or_api_Errno.f
  refine RS.go ?_
  refine RT.goto rfl ?_
  refine RS.weak [(3, .int .i64 0), (6, sq eI l0), (7, .int .i64 (l0.length : Int)), (8, .int .i64 0)] [] ⟨Le.eq (by first | rfl | simp), Le.eq (by first | rfl | simp), Le.eq (by first | rfl | simp), Le.eq (by first | rfl | simp), trivial⟩ trivial rfl (dom0 rfl) ?_
  exact cmp_Or_api_Errno.loops k l0 0 
/-! ### pileref1_HoursFault: function 30 -/
def pileref1_HoursFault.f (a0_0 : Int) (a0_1 : Int) : Option (Int) := (if wrap64 (Int.tdiv (wrap64 ((wrap64 ((wrap64 (a0_1 - a0_0)) + 3600000)) - 1)) 3600000) > 1000 then Option.some 2 else Option.some 0)
theorem pileref1_HoursFault.ok (a0_0 : Int) (a0_1 : Int) (r : Int) (h : pileref1_HoursFault.f a0_0 a0_1 = some r) : Ct Try.prog B 30 [.agg [.int .i64 a0_0, .int .i64 a0_1]] (ofL []) (.int .i64 r) (ofL []) := by
  refine Ct.of (Y := (fam Try.f30 [] [] [] (fun r : Int => .int .i64 r) (fun r => []))) Try.func30 rfl Try.call30 rfl rfl ?_ r h
  unfold pileref1_HoursFault.f
  refine RS.go ?_
  refine RT.brF rfl ?_
  refine RT.br rfl (fun c1 => ?_) (fun c1 => ?_)
  · exact RT.done rfl rfl (Le.refl _) trivial rfl (dom0 rfl)
  · exact RT.done rfl rfl (Le.refl _) trivial rfl (dom0 rfl)
/-! ### pileref1_MomentFault: function 31 -/
def pileref1_MomentFault.f (a0 : Int) : Option (Int) := ((pileref1_SpanFault.f a0 0 345686399999).bind fun r1 => Option.some r1)
theorem pileref1_MomentFault.ok (a0 : Int) (r : Int) (h : pileref1_MomentFault.f a0 = some r) : Ct Try.prog B 31 [.int .i64 a0] (ofL []) (.int .i64 r) (ofL []) := by
  refine Ct.of (Y := (fam Try.f31 [] [] [] (fun r : Int => .int .i64 r) (fun r => []))) Try.func31 rfl Try.call31 rfl rfl ?_ r h
  unfold pileref1_MomentFault.f
  refine RS.go ?_
  refine RT.call0 rfl (fun _ h => pileref1_SpanFault.ok a0 0 345686399999 _ h) (LeL.eq rfl) (fun _ => rfl) (fun r1 => ?_)
  refine RS.go ?_
  exact RT.done rfl rfl (Le.refl _) trivial rfl (dom0 rfl)
/-! ### pileref1_LongFault: function 32 -/
def pileref1_LongFault.f (a0 : Int) : Option (Int) := ((pileref1_SpanFault.f a0 60000 86400000).bind fun r1 => Option.some r1)
theorem pileref1_LongFault.ok (a0 : Int) (r : Int) (h : pileref1_LongFault.f a0 = some r) : Ct Try.prog B 32 [.int .i64 a0] (ofL []) (.int .i64 r) (ofL []) := by
  refine Ct.of (Y := (fam Try.f32 [] [] [] (fun r : Int => .int .i64 r) (fun r => []))) Try.func32 rfl Try.call32 rfl rfl ?_ r h
  unfold pileref1_LongFault.f
  refine RS.go ?_
  refine RT.call0 rfl (fun _ h => pileref1_SpanFault.ok a0 60000 86400000 _ h) (LeL.eq rfl) (fun _ => rfl) (fun r1 => ?_)
  refine RS.go ?_
  exact RT.done rfl rfl (Le.refl _) trivial rfl (dom0 rfl)
/-! ### pileref1_truth: function 83 -/
def pileref1_truth.f (a0 : Bool) : Option (Int) := (if a0 = true then Option.some 1 else Option.some 0)
theorem pileref1_truth.ok (a0 : Bool) (r : Int) (h : pileref1_truth.f a0 = some r) : Ct Try.prog B 83 [.bool a0] (ofL []) (.int .i64 r) (ofL []) := by
  refine Ct.of (Y := (fam Try.f83 [] [] [] (fun r : Int => .int .i64 r) (fun r => []))) Try.func83 rfl Try.call83 rfl rfl ?_ r h
  unfold pileref1_truth.f
  refine RS.go ?_
  refine RT.brB rfl (fun c1 => ?_) (fun c1 => ?_)
  · exact RT.done rfl rfl (Le.refl _) trivial rfl (dom0 rfl)
  · exact RT.done rfl rfl (Le.refl _) trivial rfl (dom0 rfl)
/-! ### pileref1_manyIn: function 57 -/
def pileref1_manyIn.l0 : Nat → List Int → Int → Int → Int → Int → Option (Int)
  | 0, _, _, _, _, _ => Option.none
  | k + 1, l0, a1_0, a1_1, x5, x10 => (if x10 < (l0.length : Int) then (if 0 ≤ x10 then (if x10 < (l0.length : Int) then ((pileref1_inside.f a1_0 a1_1 (rd l0 x10)).bind fun r3 => ((pileref1_truth.f r3).bind fun r4 => pileref1_manyIn.l0 k l0 a1_0 a1_1 (wrap64 (x5 + r4)) (wrap64 (x10 + 1)))) else Option.none) else Option.none) else Option.some x5)
def pileref1_manyIn.f (k : Nat) (l0 : List Int) (a1_0 : Int) (a1_1 : Int) : Option (Int) := pileref1_manyIn.l0 k l0 a1_0 a1_1 0 0
theorem pileref1_manyIn.loops : ∀ k, (∀ (l0 : List Int) (a1_0 : Int) (a1_1 : Int) (x5 : Int) (x10 : Int), RS (fam Try.f57 [] [] [] (fun r : Int => .int .i64 r) (fun r => [])) (Func.head Try.f57 0) ⟨ofT [(3, .ref 3 0 0 0 2), (5, .int .i64 x5), (8, sq eI l0), (9, .int .i64 (l0.length : Int)), (10, .int .i64 x10)], ofL [(3, .box [.int .i64 a1_0, .int .i64 a1_1])]⟩ (pileref1_manyIn.l0 k l0 a1_0 a1_1 x5 x10))
  | 0 => by intro _ _ _ _ _; simp only [pileref1_manyIn.l0]; exact RS.none
  | k + 1 => by
    have ih := pileref1_manyIn.loops k
    · intro l0 a1_0 a1_1 x5 x10
      simp only [pileref1_manyIn.l0]
      refine RS.go ?_
      refine RT.br rfl (fun c5 => ?_) (fun c5 => ?_)
      · refine RT.br rfl (fun c1 => ?_) (fun c1 => RT.none)
        refine RT.br rfl (fun c2 => ?_) (fun c2 => RT.none)
        refine RT.call0 rfl (fun _ h => pileref1_inside.ok a1_0 a1_1 (rd l0 x10) _ h) (LeL.eq rfl) (fun _ => rfl) (fun r3 => ?_)
        refine RS.go ?_
        refine RT.call0 rfl (fun _ h => pileref1_truth.ok r3 _ h) (LeL.eq rfl) (fun _ => rfl) (fun r4 => ?_)
        refine RS.go ?_
        refine RT.goto rfl ?_
        refine RS.weak [(3, .ref 3 0 0 0 2), (5, .int .i64 (wrap64 (x5 + r4))), (8, sq eI l0), (9, .int .i64 (l0.length : Int)), (10, .int .i64 (wrap64 (x10 + 1)))] [(3, .box [.int .i64 a1_0, .int .i64 a1_1])] ⟨Le.eq (by first | rfl | simp), Le.eq (by first | rfl | simp), Le.eq (by first | rfl | simp), Le.eq (by first | rfl | simp), Le.eq (by first | rfl | simp), trivial⟩ ⟨⟨_, rfl, LeO.refl _⟩, trivial⟩ rfl (dom0 rfl) ?_
        exact ih l0 a1_0 a1_1 (wrap64 (x5 + r4)) (wrap64 (x10 + 1)) 
      · exact RT.done rfl rfl (Le.refl _) trivial rfl (dom0 rfl)
theorem pileref1_manyIn.ok (k : Nat) (l0 : List Int) (a1_0 : Int) (a1_1 : Int) (r : Int) (h : pileref1_manyIn.f k l0 a1_0 a1_1 = some r) : Ct Try.prog B 57 [sq eI l0, .agg [.int .i64 a1_0, .int .i64 a1_1]] (ofL []) (.int .i64 r) (ofL []) := by
  refine Ct.of (Y := (fam Try.f57 [] [] [] (fun r : Int => .int .i64 r) (fun r => []))) Try.func57 rfl Try.call57 rfl rfl ?_ r h
  unfold pileref1_manyIn.f
  refine RS.go ?_
  refine RT.goto rfl ?_
  refine RS.weak [(3, .ref 3 0 0 0 2), (5, .int .i64 0), (8, sq eI l0), (9, .int .i64 (l0.length : Int)), (10, .int .i64 0)] [(3, .box [.int .i64 a1_0, .int .i64 a1_1])] ⟨Le.eq (by first | rfl | simp), Le.eq (by first | rfl | simp), Le.eq (by first | rfl | simp), Le.eq (by first | rfl | simp), Le.eq (by first | rfl | simp), trivial⟩ ⟨⟨_, rfl, LeO.refl _⟩, trivial⟩ rfl (dom0 rfl) ?_
  exact pileref1_manyIn.loops k l0 a1_0 a1_1 0 0 
/-! ### pileref1_floor: function 71 -/
def pileref1_floor.j4 : Nat → Int → Option (Int)
  | 0, _ => Option.none
  | k + 1, x5j4 => Option.some x5j4
def pileref1_floor.f (k : Nat) (a0 : Int) (a1 : Int) : Option (Int) := (if a1 = 0 then Option.none else (if a1 = 0 then Option.none else (if Int.tmod a0 a1 < 0 then pileref1_floor.j4 k (wrap64 ((wrap64 (Int.tdiv a0 a1)) - 1)) else pileref1_floor.j4 k (wrap64 (Int.tdiv a0 a1)))))
theorem pileref1_floor.loops : ∀ k, (∀ (x5j4 : Int), RS (fam Try.f71 [4] [] [] (fun r : Int => .int .i64 r) (fun r => [])) (Func.reg Try.f71 4) ⟨ofT [(5, .int .i64 x5j4)], ofL []⟩ (pileref1_floor.j4 k x5j4))
  | 0 => by intro _; simp only [pileref1_floor.j4]; exact RS.none
  | k + 1 => by
    have ih := pileref1_floor.loops k
    · intro x5j4
      simp only [pileref1_floor.j4]
      refine RS.region ?_
      refine RS.go ?_
      exact RT.done rfl rfl (Le.refl _) trivial rfl (dom0 rfl)
theorem pileref1_floor.ok (k : Nat) (a0 : Int) (a1 : Int) (r : Int) (h : pileref1_floor.f k a0 a1 = some r) : Ct Try.prog B 71 [.int .i64 a0, .int .i64 a1] (ofL []) (.int .i64 r) (ofL []) := by
  refine Ct.of (Y := (fam Try.f71 [4] [] [] (fun r : Int => .int .i64 r) (fun r => []))) Try.func71 rfl Try.call71 rfl rfl ?_ r h
  unfold pileref1_floor.f
  refine RS.go ?_
  refine RT.br rfl (fun _ => RT.none) (fun c3 => ?_)
  refine RT.br rfl (fun _ => RT.none) (fun c2 => ?_)
  refine RT.br rfl (fun c1 => ?_) (fun c1 => ?_)
  · refine RT.goto rfl ?_
    refine RS.weak [(5, .int .i64 (wrap64 ((wrap64 (Int.tdiv a0 a1)) - 1)))] [] ⟨Le.eq (by first | rfl | simp), trivial⟩ trivial rfl (dom0 rfl) ?_
    exact pileref1_floor.loops k (wrap64 ((wrap64 (Int.tdiv a0 a1)) - 1)) 
  · refine RT.goto rfl ?_
    refine RS.weak [(5, .int .i64 (wrap64 (Int.tdiv a0 a1)))] [] ⟨Le.eq (by first | rfl | simp), trivial⟩ trivial rfl (dom0 rfl) ?_
    exact pileref1_floor.loops k (wrap64 (Int.tdiv a0 a1)) 
/-! ### pileref1_GoalOf: function 33 -/
def pileref1_GoalOf.k0 : List DK := [⟨[29], [], [10], []⟩, ⟨[24], [], [9], []⟩, ⟨[26, 28], [], [29], []⟩, ⟨[27], [4], [28], []⟩, ⟨[4], [4], [27], []⟩, ⟨[25], [4], [26], []⟩, ⟨[4], [4], [25], []⟩, ⟨[21, 23], [], [24], []⟩, ⟨[22], [4], [23], []⟩, ⟨[4], [4], [22], []⟩, ⟨[20], [], [21], []⟩, ⟨[8], [], [20], []⟩]
def pileref1_GoalOf.k1 : List Nat := [0, 1, 0, 4, 15, 0, 32, 0, 128, 480, 31, 2047]
def pileref1_GoalOf.l0 : Nat → List Int → Int → Int → Int → Int → List Int → Option ((List Int))
  | 0, _, _, _, _, _, _ => Option.none
  | k + 1, l0, a1_0, a1_1, a2, x8, o7 => (if x8 < a1_1 then ((pileref1_manyIn.f k l0 a1_0 (mn (wrap64 (x8 + 3600000)) a1_1)).bind fun r1 => ((pileref1_floor.f k (wrap64 ((wrap64 (r1 * (wrap64 (a1_1 - a1_0)))) - (wrap64 (a2 * (wrap64 ((mn (wrap64 (x8 + 3600000)) a1_1) - a1_0)))))) (wrap64 (a1_1 - a1_0))).bind fun r2 => (if o7.length + 1 ≤ 549755813888 then pileref1_GoalOf.l0 k l0 a1_0 a1_1 a2 (wrap64 (x8 + 3600000)) (o7 ++ [r2]) else Option.none))) else Option.some o7)
def pileref1_GoalOf.f (k : Nat) (l0 : List Int) (a1_0 : Int) (a1_1 : Int) (a2 : Int) : Option ((List Int)) := pileref1_GoalOf.l0 k l0 a1_0 a1_1 a2 a1_0 []
theorem pileref1_GoalOf.loops : ∀ k, (∀ (l0 : List Int) (a1_0 : Int) (a1_1 : Int) (a2 : Int) (x8 : Int) (o7 : List Int), RS (fam Try.f33 [] [] [] (fun r : (List Int) => sq eI r) (fun r => [])) (Func.head Try.f33 0) ⟨ofT [(0, sq eI l0), (2, .int .i64 a2), (4, .ref 4 0 0 0 2), (7, .osl 7 eI.w 0 o7.length o7.length), (8, .int .i64 x8)], ofL [(4, .box [.int .i64 a1_0, .int .i64 a1_1]), (7, bufE eI o7)]⟩ (pileref1_GoalOf.l0 k l0 a1_0 a1_1 a2 x8 o7))
  | 0 => by intro _ _ _ _ _ _; simp only [pileref1_GoalOf.l0]; exact RS.none
  | k + 1 => by
    have ih := pileref1_GoalOf.loops k
    · intro l0 a1_0 a1_1 a2 x8 o7
      simp only [pileref1_GoalOf.l0]
      refine RS.go ?_
      refine RT.br rfl (fun c4 => ?_) (fun c4 => ?_)
      · refine RT.goto rfl ?_
        refine RS.draw rfl ?_
        refine RD.fin pileref1_GoalOf.k0 pileref1_GoalOf.k1 rfl rfl (by decide +kernel) ?_
        refine RS.go ?_
        refine RT.call0 rfl (fun _ h => pileref1_manyIn.ok k l0 a1_0 (mn (wrap64 (x8 + 3600000)) a1_1) _ h) (LeL.eq rfl) (fun _ => rfl) (fun r1 => ?_)
        refine RS.go ?_
        refine RT.call0 rfl (fun _ h => pileref1_floor.ok k (wrap64 ((wrap64 (r1 * (wrap64 (a1_1 - a1_0)))) - (wrap64 (a2 * (wrap64 ((mn (wrap64 (x8 + 3600000)) a1_1) - a1_0)))))) (wrap64 (a1_1 - a1_0)) _ h) (LeL.eq rfl) (fun _ => rfl) (fun r2 => ?_)
        refine RS.go ?_
        refine RT.goto rfl ?_
        refine RS.slot 49 (sq eI [r2]) (Le.lit (E := eI) (l := [r2]) (cells_of rfl)) ?_
        refine RS.go ?_
        refine RT.req rfl ⟨by first | rfl | simp, by first | exact Nat.le_refl _ | simp⟩ ?_
        refine RT.not rfl (by simp <;> omega) ?_
        refine RT.br rfl (fun c3 => ?_) (fun _ => RT.none)
        refine RT.goto rfl ?_
        refine RS.obj 7 (bufE eI (o7 ++ [r2])) ⟨_, rfl, LeO.app (l := o7) (m := [r2]) fun _ _ _ _ => rfl⟩ ?_
        refine RS.slot 50 (.osl 7 eI.w 0 (o7 ++ [r2]).length (o7 ++ [r2]).length) (by first | exact Le.oslN rfl (by simp) | exact Le.trans (y := .osl 7 eI.w 0 (o7.length + 1) (o7.length + 1)) (Le.refl _) (Le.oslN rfl (by simp))) ?_
        refine RS.go ?_
        refine RT.goto rfl ?_
        refine RS.weak [(0, sq eI l0), (2, .int .i64 a2), (4, .ref 4 0 0 0 2), (7, .osl 7 eI.w 0 (o7 ++ [r2]).length (o7 ++ [r2]).length), (8, .int .i64 (wrap64 (x8 + 3600000)))] [(4, .box [.int .i64 a1_0, .int .i64 a1_1]), (7, bufE eI (o7 ++ [r2]))] ⟨Le.eq (by first | rfl | simp), Le.eq (by first | rfl | simp), Le.eq (by first | rfl | simp), (by first | exact Le.oslN rfl (by first | rfl | simp) | exact Le.refl _ | exact Le.eq (by first | rfl | simp)), Le.eq (by first | rfl | simp), trivial⟩ ⟨⟨_, rfl, LeO.refl _⟩, ⟨_, rfl, LeO.refl _⟩, trivial⟩ rfl (dom0 rfl) ?_
        exact ih l0 a1_0 a1_1 a2 (wrap64 (x8 + 3600000)) (o7 ++ [r2]) 
      · refine RT.freeze 7 _ _ _ [(6, sq eI o7)] [] rfl rfl ⟨.inr ⟨_, rfl, by first | exact Nat.le_refl _ | simp, rfl⟩, trivial⟩ trivial rfl (dom0 rfl) ?_
        exact RT.done rfl rfl (Le.refl _) trivial rfl (dom0 rfl)
theorem pileref1_GoalOf.ok (k : Nat) (l0 : List Int) (a1_0 : Int) (a1_1 : Int) (a2 : Int) (r : (List Int)) (h : pileref1_GoalOf.f k l0 a1_0 a1_1 a2 = some r) : Ct Try.prog B 33 [sq eI l0, .agg [.int .i64 a1_0, .int .i64 a1_1], .int .i64 a2] (ofL []) (sq eI r) (ofL []) := by
  refine Ct.of (Y := (fam Try.f33 [] [] [] (fun r : (List Int) => sq eI r) (fun r => []))) Try.func33 rfl Try.call33 rfl rfl ?_ r h
  unfold pileref1_GoalOf.f
  refine RS.go ?_
  refine RT.goto rfl ?_
  refine RS.ghost 7 7 eI.w (rep eI []) rfl rfl ?_
  refine RS.weak [(0, sq eI l0), (2, .int .i64 a2), (4, .ref 4 0 0 0 2), (7, .osl 7 eI.w 0 ([] : List Int).length ([] : List Int).length), (8, .int .i64 a1_0)] [(4, .box [.int .i64 a1_0, .int .i64 a1_1]), (7, bufE eI ([] : List Int))] ⟨Le.eq (by first | rfl | simp), Le.eq (by first | rfl | simp), Le.eq (by first | rfl | simp), (by first | exact Le.oslN rfl (by first | rfl | simp) | exact Le.refl _ | exact Le.eq (by first | rfl | simp)), Le.eq (by first | rfl | simp), trivial⟩ ⟨⟨_, rfl, LeO.refl _⟩, ⟨_, rfl, LeO.refl _⟩, trivial⟩ rfl (dom0 rfl) ?_
  exact pileref1_GoalOf.loops k l0 a1_0 a1_1 a2 a1_0 [] 
/-! ### pileref1_before: function 72 -/
def pileref1_before.f (a0_0 : Int) (a0_1 : Int) (a1 : Int) (a2 : Int) : Option (Int × Int) := Option.some (mx (wrap64 (a1 - a2)) a0_0, mn a1 a0_1)
theorem pileref1_before.ok (a0_0 : Int) (a0_1 : Int) (a1 : Int) (a2 : Int) (r : Int × Int) (h : pileref1_before.f a0_0 a0_1 a1 a2 = some r) : Ct Try.prog B 72 [.agg [.int .i64 a0_0, .int .i64 a0_1], .int .i64 a1, .int .i64 a2] (ofL []) (.agg [.int .i64 r.1, .int .i64 r.2]) (ofL []) := by
  refine Ct.of (Y := (fam Try.f72 [] [] [] (fun r : Int × Int => .agg [.int .i64 r.1, .int .i64 r.2]) (fun r => []))) Try.func72 rfl Try.call72 rfl rfl ?_ r h
  unfold pileref1_before.f
  refine RS.go ?_
  exact RT.done rfl rfl (Le.refl _) trivial rfl (dom0 rfl)
/-! ### pileref1_ForecastOf: function 34 -/
def pileref1_ForecastOf.k0 : List DK := [⟨[], [], [9], []⟩, ⟨[43], [], [8], []⟩, ⟨[31, 42], [], [43], []⟩, ⟨[36, 41], [], [42], []⟩, ⟨[38, 40], [], [41], []⟩, ⟨[39], [10], [40], []⟩, ⟨[10], [10], [39], []⟩, ⟨[37], [10], [38], []⟩, ⟨[10], [10], [37], []⟩, ⟨[32, 35], [], [36], []⟩, ⟨[33, 34], [], [35], []⟩, ⟨[10], [10], [34], []⟩, ⟨[0], [], [33], []⟩, ⟨[11], [], [32], []⟩, ⟨[26, 30], [], [31], []⟩, ⟨[28, 29], [], [30], []⟩, ⟨[2], [], [29], []⟩, ⟨[27], [5], [28], []⟩, ⟨[5], [5], [27], []⟩, ⟨[0], [], [26], []⟩]
def pileref1_ForecastOf.k1 : List Nat := [0, 0, 2, 0, 14, 31, 0, 0, 0, 447, 1023, 0, 2048, 0, 8192, 30720, 65535, 131071, 262143, 524287]
def pileref1_ForecastOf.f (k : Nat) (l0 : List Int) (a1_0 : Int) (a1_1 : Int) (a2 : Int) (a3 : Int) : Option (Int × Bool) := ((pileref1_before.f a1_0 a1_1 a2 a3).bind fun r1 => (if r1.1 ≥ r1.2 then Option.some (0, false) else ((pileref1_manyIn.f k l0 a1_0 a2).bind fun r2 => ((pileref1_manyIn.f k l0 r1.1 r1.2).bind fun r3 => (if wrap64 (r1.2 - r1.1) = 0 then Option.none else Option.some (wrap64 (r2 + (wrap64 (Int.tdiv (wrap64 ((wrap64 (a1_1 - r1.2)) * r3)) (wrap64 (r1.2 - r1.1))))), true))))))
theorem pileref1_ForecastOf.ok (k : Nat) (l0 : List Int) (a1_0 : Int) (a1_1 : Int) (a2 : Int) (a3 : Int) (r : Int × Bool) (h : pileref1_ForecastOf.f k l0 a1_0 a1_1 a2 a3 = some r) : Ct Try.prog B 34 [sq eI l0, .agg [.int .i64 a1_0, .int .i64 a1_1], .int .i64 a2, .int .i64 a3] (ofL []) (.tup [.int .i64 r.1, .bool r.2]) (ofL []) := by
  refine Ct.of (Y := (fam Try.f34 [] [] [] (fun r : Int × Bool => .tup [.int .i64 r.1, .bool r.2]) (fun r => []))) Try.func34 rfl Try.call34 rfl rfl ?_ r h
  unfold pileref1_ForecastOf.f
  refine RS.go ?_
  refine RT.call0 rfl (fun _ h => pileref1_before.ok a1_0 a1_1 a2 a3 _ h) (LeL.eq rfl) (fun _ => rfl) (fun r1 => ?_)
  refine RS.go ?_
  refine RT.br rfl (fun c5 => ?_) (fun c5 => ?_)
  · exact RT.done rfl rfl (Le.tup (LeL.cons (Le.refl _) (LeL.cons (Le.refl _) (LeL.nil)))) trivial rfl (dom0 rfl)
  · refine RT.goto rfl ?_
    refine RS.draw rfl ?_
    refine RD.call (CR := []) (CW := (fun r => [])) rfl (fun _ h => pileref1_manyIn.ok k l0 a1_0 a2 _ h) (fun i => i) trivial (fun _ => rfl) ⟨_, _, _, _, rfl, rfl, rfl⟩ (LeL.eq rfl) trivial (fun _ => rfl) (fun r2 => ?_)
    refine RD.call (CR := []) (CW := (fun r => [])) rfl (fun _ h => pileref1_manyIn.ok k l0 r1.1 r1.2 _ h) (fun i => i) trivial (fun _ => rfl) ⟨_, _, _, _, rfl, rfl, rfl⟩ (LeL.eq rfl) trivial (fun _ => rfl) (fun r3 => ?_)
    refine RD.br rfl (fun _ => RD.none) (fun c4 => ?_)
    refine RD.fin pileref1_ForecastOf.k0 pileref1_ForecastOf.k1 rfl rfl (by decide +kernel) ?_
    refine RS.go ?_
    exact RT.done rfl rfl (Le.tup (LeL.cons (Le.refl _) (LeL.cons (Le.refl _) (LeL.nil)))) trivial rfl (dom0 rfl)
/-! ### pileref1_AheadOf: function 35 -/
def pileref1_AheadOf.k0 : List DK := [⟨[87], [], [8], []⟩, ⟨[75, 86], [87, 8], [87], [8]⟩, ⟨[85], [86], [86], []⟩, ⟨[79, 84], [], [85], []⟩, ⟨[83], [], [84], []⟩, ⟨[80, 82], [], [83], []⟩, ⟨[81], [], [82], []⟩, ⟨[9], [], [81], []⟩, ⟨[7], [], [80], []⟩, ⟨[78], [], [79], []⟩, ⟨[76, 77], [], [78], []⟩, ⟨[9], [], [77], []⟩, ⟨[7], [], [76], []⟩, ⟨[8], [], [75], []⟩]
def pileref1_AheadOf.k1 : List Nat := [0, 0, 0, 6, 14, 0, 0, 64, 224, 480, 1022, 2046, 4095, 8191]
def pileref1_AheadOf.k2 : List DK := [⟨[52, 63], [], [64], []⟩, ⟨[52, 58, 62], [], [63], []⟩, ⟨[52, 61], [], [62], []⟩, ⟨[52, 59, 60], [], [61], []⟩, ⟨[52, 9], [], [60], []⟩, ⟨[52, 7], [], [59], []⟩, ⟨[52, 57], [8], [58], []⟩, ⟨[52, 56], [8], [57], []⟩, ⟨[52, 53, 55], [8], [56], []⟩, ⟨[52, 54], [], [55], []⟩, ⟨[52, 11], [], [54], []⟩, ⟨[52, 8], [], [53], []⟩, ⟨[51], [], [52], []⟩, ⟨[50], [], [51], []⟩, ⟨[11], [], [50], []⟩]
def pileref1_AheadOf.k3 : List Nat := [0, 1, 3, 7, 7, 23, 63, 127, 255, 7, 7, 1543, 3591, 8191, 16383]
def pileref1_AheadOf.k4 : List DK := [⟨[52, 63], [], [64], []⟩, ⟨[52], [], [63], []⟩, ⟨[52], [], [62], []⟩, ⟨[52], [], [61], []⟩, ⟨[52], [], [60], []⟩, ⟨[52], [], [59], []⟩, ⟨[52], [], [58], []⟩, ⟨[52], [], [57], []⟩, ⟨[52], [], [56], []⟩, ⟨[52], [], [55], []⟩, ⟨[52], [], [54], []⟩, ⟨[52], [], [53], []⟩, ⟨[51], [], [52], []⟩, ⟨[50], [], [51], []⟩, ⟨[11], [], [50], []⟩]
def pileref1_AheadOf.k5 : List DK := [⟨[43, 46], [], [47], []⟩, ⟨[44, 45], [], [46], []⟩, ⟨[10], [10], [45], []⟩, ⟨[1], [], [44], []⟩, ⟨[41, 42], [], [43], []⟩, ⟨[10], [10], [42], []⟩, ⟨[0], [], [41], []⟩]
def pileref1_AheadOf.k6 : List Nat := [0, 0, 3, 0, 0, 31, 63]
def pileref1_AheadOf.k7 : List DK := [⟨[10, 40], [10], [], [10]⟩, ⟨[], [10, 1000010], [10], [10]⟩, ⟨[34, 39], [], [40], []⟩, ⟨[38], [], [39], []⟩, ⟨[37], [], [38], []⟩, ⟨[35, 36], [], [37], []⟩, ⟨[9], [], [36], []⟩, ⟨[7], [], [35], []⟩, ⟨[33], [5], [34], []⟩, ⟨[5], [5], [33], []⟩]
def pileref1_AheadOf.k8 : List Nat := [0, 1, 0, 0, 12, 28, 60, 127, 0, 511]
def pileref1_AheadOf.k9 : List DK := [⟨[21], [], [7], []⟩, ⟨[16, 20], [21, 16, 20], [21], [16]⟩, ⟨[19], [20], [20], [20]⟩, ⟨[17, 18], [19], [19], []⟩, ⟨[1], [], [18], []⟩, ⟨[0], [], [17], []⟩, ⟨[13, 15], [16], [16], [16]⟩, ⟨[14], [5], [15], []⟩, ⟨[5], [5], [14], []⟩, ⟨[12], [5], [13], []⟩, ⟨[5], [5], [12], []⟩]
def pileref1_AheadOf.k10 : List Nat := [0, 1, 0, 4, 15, 0, 0, 96, 224, 511, 1023]
mutual
def pileref1_AheadOf.j7 : Nat → List Int → List Int → Int → Int → List Int → Int → List (Int × Int) → Option ((List (Int × Int)))
  | 0, _, _, _, _, _, _, _ => Option.none
  | k + 1, l0, l1, a2_0, a2_1, x7, x9, o8j7 => pileref1_AheadOf.l0 k l0 l1 a2_0 a2_1 x7 (wrap64 (x9 + 1)) o8j7
def pileref1_AheadOf.l0 : Nat → List Int → List Int → Int → Int → List Int → Int → List (Int × Int) → Option ((List (Int × Int)))
  | 0, _, _, _, _, _, _, _ => Option.none
  | k + 1, l0, l1, a2_0, a2_1, x7, x9, o8 => (if wrap64 (x9 + 1) < (x7.length : Int) then (if 0 ≤ x9 then (if x9 < (x7.length : Int) then ((pileref1_manyIn.f k l0 a2_0 (wrap64 ((rd x7 x9) + 1))).bind fun r9 => ((pileref1_manyIn.f k l1 a2_0 (wrap64 ((rd x7 x9) + 1))).bind fun r10 => (if r9 ≤ r10 then pileref1_AheadOf.j7 k l0 l1 a2_0 a2_1 x7 x9 o8 else (if (o8.length : Int) > 0 then (if 0 ≤ wrap64 ((o8.length : Int) - 1) then (if wrap64 ((o8.length : Int) - 1) < (o8.length : Int) then (if 0 ≤ x9 then (if x9 < (x7.length : Int) then (if (rdE e_II o8 (wrap64 ((o8.length : Int) - 1))).2 = (rd x7 x9) then (if 0 ≤ wrap64 (x9 + 1) then (if wrap64 (x9 + 1) < (x7.length : Int) then (if 0 ≤ wrap64 ((o8.length : Int) - 1) then (if wrap64 ((o8.length : Int) - 1) < (o8.length : Int) then pileref1_AheadOf.j7 k l0 l1 a2_0 a2_1 x7 x9 (o8.set ((wrap64 ((o8.length : Int) - 1))).toNat ((rdE e_II o8 (wrap64 ((o8.length : Int) - 1))).1, (rd x7 (wrap64 (x9 + 1))))) else Option.none) else Option.none) else Option.none) else Option.none) else (if 0 ≤ x9 then (if x9 < (x7.length : Int) then (if 0 ≤ wrap64 (x9 + 1) then (if wrap64 (x9 + 1) < (x7.length : Int) then (if o8.length + [((rd x7 x9), (rd x7 (wrap64 (x9 + 1))))].length ≤ 549755813888 then pileref1_AheadOf.j7 k l0 l1 a2_0 a2_1 x7 x9 (o8 ++ [((rd x7 x9), (rd x7 (wrap64 (x9 + 1))))]) else Option.none) else Option.none) else Option.none) else Option.none) else Option.none)) else Option.none) else Option.none) else Option.none) else Option.none) else (if 0 ≤ x9 then (if x9 < (x7.length : Int) then (if 0 ≤ wrap64 (x9 + 1) then (if wrap64 (x9 + 1) < (x7.length : Int) then (if o8.length + [((rd x7 x9), (rd x7 (wrap64 (x9 + 1))))].length ≤ 549755813888 then pileref1_AheadOf.j7 k l0 l1 a2_0 a2_1 x7 x9 (o8 ++ [((rd x7 x9), (rd x7 (wrap64 (x9 + 1))))]) else Option.none) else Option.none) else Option.none) else Option.none) else Option.none))))) else Option.none) else Option.none) else Option.some o8)
end
def pileref1_AheadOf.f (k : Nat) (l0 : List Int) (l1 : List Int) (a2_0 : Int) (a2_1 : Int) : Option ((List (Int × Int))) := ((slices_Concat_int_int.f k [l0, l1]).bind fun r1 => (if [a2_0, a2_1].length + r1.1.length ≤ 549755813888 then ((slices_Sort_int_int.f ([a2_0, a2_1] ++ r1.1)).bind fun r4 => (if ([a2_0, a2_1] ++ r1.1).length = r4.length then ((slices_Compact_int_int.f r4).bind fun r6 => pileref1_AheadOf.l0 k l0 l1 a2_0 a2_1 r6.1 0 []) else Option.none)) else Option.none))
theorem pileref1_AheadOf.loops : ∀ k, (∀ (l0 : List Int) (l1 : List Int) (a2_0 : Int) (a2_1 : Int) (x7 : List Int) (x9 : Int) (o8j7 : List (Int × Int)), RS (fam Try.f35 [4, 7] [16] [] (fun r : (List (Int × Int)) => sq e_II r) (fun r => [])) (Func.reg Try.f35 7) ⟨ofT [(0, sq eI l0), (1, sq eI l1), (5, .ref 5 0 0 0 2), (7, sq eI x7), (8, .osl 8 e_II.w 0 o8j7.length o8j7.length), (9, .int .i64 x9)], ofL [(5, .box [.int .i64 a2_0, .int .i64 a2_1]), (8, bufE e_II o8j7)]⟩ (pileref1_AheadOf.j7 k l0 l1 a2_0 a2_1 x7 x9 o8j7)) ∧ (∀ (l0 : List Int) (l1 : List Int) (a2_0 : Int) (a2_1 : Int) (x7 : List Int) (x9 : Int) (o8 : List (Int × Int)), RS (fam Try.f35 [4, 7] [16] [] (fun r : (List (Int × Int)) => sq e_II r) (fun r => [])) (Func.head Try.f35 0) ⟨ofT [(0, sq eI l0), (1, sq eI l1), (5, .ref 5 0 0 0 2), (7, sq eI x7), (8, .osl 8 e_II.w 0 o8.length o8.length), (9, .int .i64 x9)], ofL [(5, .box [.int .i64 a2_0, .int .i64 a2_1]), (8, bufE e_II o8)]⟩ (pileref1_AheadOf.l0 k l0 l1 a2_0 a2_1 x7 x9 o8))
  | 0 => ⟨by intro _ _ _ _ _ _ _; simp only [pileref1_AheadOf.j7]; exact RS.none, by intro _ _ _ _ _ _ _; simp only [pileref1_AheadOf.l0]; exact RS.none⟩
  | k + 1 => by
    have ih := pileref1_AheadOf.loops k
    refine ⟨?_, ?_⟩
    · intro l0 l1 a2_0 a2_1 x7 x9 o8j7
      simp only [pileref1_AheadOf.j7]
      refine RS.region ?_
      refine RS.go ?_
      refine RT.goto rfl ?_
      refine RS.weak [(0, sq eI l0), (1, sq eI l1), (5, .ref 5 0 0 0 2), (7, sq eI x7), (8, .osl 8 e_II.w 0 o8j7.length o8j7.length), (9, .int .i64 (wrap64 (x9 + 1)))] [(5, .box [.int .i64 a2_0, .int .i64 a2_1]), (8, bufE e_II o8j7)] ⟨Le.eq (by first | rfl | simp), Le.eq (by first | rfl | simp), Le.eq (by first | rfl | simp), Le.eq (by first | rfl | simp), (by first | exact Le.oslN rfl (by first | rfl | simp) | exact Le.refl _ | exact Le.eq (by first | rfl | simp)), Le.eq (by first | rfl | simp), trivial⟩ ⟨⟨_, rfl, LeO.refl _⟩, ⟨_, rfl, LeO.refl _⟩, trivial⟩ rfl (dom0 rfl) ?_
      exact ih.2 l0 l1 a2_0 a2_1 x7 (wrap64 (x9 + 1)) o8j7 
    · intro l0 l1 a2_0 a2_1 x7 x9 o8
      simp only [pileref1_AheadOf.l0]
      refine RS.go ?_
      refine RT.br rfl (fun c32 => ?_) (fun c32 => ?_)
      · refine RT.goto rfl ?_
        refine RS.draw rfl ?_
        refine RD.br rfl (fun c7 => ?_) (fun c7 => RD.none)
        refine RD.br rfl (fun c8 => ?_) (fun c8 => RD.none)
        refine RD.fin pileref1_AheadOf.k7 pileref1_AheadOf.k8 rfl rfl (by decide +kernel) ?_
        refine RS.go ?_
        refine RT.goto rfl ?_
        refine RS.draw rfl ?_
        refine RD.call (CR := []) (CW := (fun r => [])) rfl (fun _ h => pileref1_manyIn.ok k l0 a2_0 (wrap64 ((rd x7 x9) + 1)) _ h) (fun i => i) trivial (fun _ => rfl) ⟨_, _, _, _, rfl, rfl, rfl⟩ (LeL.eq rfl) trivial (fun _ => rfl) (fun r9 => ?_)
        refine RD.call (CR := []) (CW := (fun r => [])) rfl (fun _ h => pileref1_manyIn.ok k l1 a2_0 (wrap64 ((rd x7 x9) + 1)) _ h) (fun i => i) trivial (fun _ => rfl) ⟨_, _, _, _, rfl, rfl, rfl⟩ (LeL.eq rfl) trivial (fun _ => rfl) (fun r10 => ?_)
        refine RD.fin pileref1_AheadOf.k5 pileref1_AheadOf.k6 rfl rfl (by decide +kernel) ?_
        refine RS.go ?_
        refine RT.br rfl (fun c31 => ?_) (fun c31 => ?_)
        · refine RT.goto rfl ?_
          refine RS.weak [(0, sq eI l0), (1, sq eI l1), (5, .ref 5 0 0 0 2), (7, sq eI x7), (8, .osl 8 e_II.w 0 o8.length o8.length), (9, .int .i64 x9)] [(5, .box [.int .i64 a2_0, .int .i64 a2_1]), (8, bufE e_II o8)] ⟨Le.eq (by first | rfl | simp), Le.eq (by first | rfl | simp), Le.eq (by first | rfl | simp), Le.eq (by first | rfl | simp), (by first | exact Le.oslN rfl (by first | rfl | simp) | exact Le.refl _ | exact Le.eq (by first | rfl | simp)), Le.eq (by first | rfl | simp), trivial⟩ ⟨⟨_, rfl, LeO.refl _⟩, ⟨_, rfl, LeO.refl _⟩, trivial⟩ rfl (dom0 rfl) ?_
          exact ih.1 l0 l1 a2_0 a2_1 x7 x9 o8 
        · refine RT.req rfl (by first | exact Nat.zero_add _ | rfl | simp [szf, szOf]) ?_
          refine RT.goto rfl ?_
          refine RS.draw rfl ?_
          refine RD.br rfl (fun c30 => ?_) (fun c30 => ?_)
          · refine RD.brT rfl ?_
            refine RD.brT rfl ?_
            refine RD.brT rfl ?_
            refine RD.req rfl (by first | exact Nat.zero_add _ | rfl | simp) ?_
            refine RD.br rfl (fun c11 => ?_) (fun c11 => RD.none)
            refine RD.br rfl (fun c12 => ?_) (fun c12 => RD.none)
            refine RD.brT rfl ?_
            refine RD.req rfl (by first | rfl | simp) ?_
            refine RD.brT rfl ?_
            refine RD.req rfl ⟨by first | rfl | simp, elt_lt c11 (by first | exact c12 | simpa using c12)⟩ ?_
            refine RD.brT rfl ?_
            refine RD.brT rfl ?_
            refine RD.brT rfl ?_
            refine RD.br rfl (fun c13 => ?_) (fun c13 => RD.none)
            refine RD.br rfl (fun c14 => ?_) (fun c14 => RD.none)
            refine RD.brT rfl ?_
            refine RD.brT rfl ?_
            refine RD.brT rfl ?_
            refine RD.fin pileref1_AheadOf.k2 pileref1_AheadOf.k3 rfl rfl (by decide +kernel) ?_
            refine RS.go ?_
            refine RT.br rfl (fun c24 => ?_) (fun c24 => ?_)
            · refine RT.br rfl (fun c15 => ?_) (fun c15 => RT.none)
              refine RT.br rfl (fun c16 => ?_) (fun c16 => RT.none)
              refine RT.req rfl (by first | exact Nat.zero_add _ | rfl | simp) ?_
              refine RT.br rfl (fun c17 => ?_) (fun c17 => RT.none)
              refine RT.br rfl (fun c18 => ?_) (fun c18 => RT.none)
              refine RT.req rfl (by first | rfl | simp) ?_
              refine RT.req rfl ⟨by first | rfl | simp, elt_lt c17 (by first | exact c18 | simpa using c18)⟩ ?_
              refine RT.goto rfl ?_
              refine RS.obj 8 (bufE e_II (o8.set ((wrap64 ((o8.length : Int) - 1))).toNat ((rdE e_II o8 (wrap64 ((o8.length : Int) - 1))).1, (rd x7 (wrap64 (x9 + 1)))))) ⟨_, rfl, LeO.setE c17 (by first | exact c18 | simpa using c18) (all2 rfl rfl)⟩ ?_
              refine RS.go ?_
              refine RT.goto rfl ?_
              refine RS.weak [(0, sq eI l0), (1, sq eI l1), (5, .ref 5 0 0 0 2), (7, sq eI x7), (8, .osl 8 e_II.w 0 (o8.set ((wrap64 ((o8.length : Int) - 1))).toNat ((rdE e_II o8 (wrap64 ((o8.length : Int) - 1))).1, (rd x7 (wrap64 (x9 + 1))))).length (o8.set ((wrap64 ((o8.length : Int) - 1))).toNat ((rdE e_II o8 (wrap64 ((o8.length : Int) - 1))).1, (rd x7 (wrap64 (x9 + 1))))).length), (9, .int .i64 x9)] [(5, .box [.int .i64 a2_0, .int .i64 a2_1]), (8, bufE e_II (o8.set ((wrap64 ((o8.length : Int) - 1))).toNat ((rdE e_II o8 (wrap64 ((o8.length : Int) - 1))).1, (rd x7 (wrap64 (x9 + 1))))))] ⟨Le.eq (by first | rfl | simp), Le.eq (by first | rfl | simp), Le.eq (by first | rfl | simp), Le.eq (by first | rfl | simp), (by first | exact Le.oslN rfl (by first | rfl | simp) | exact Le.refl _ | exact Le.eq (by first | rfl | simp)), Le.eq (by first | rfl | simp), trivial⟩ ⟨⟨_, rfl, LeO.refl _⟩, ⟨_, rfl, LeO.refl _⟩, trivial⟩ rfl (dom0 rfl) ?_
              exact ih.1 l0 l1 a2_0 a2_1 x7 x9 (o8.set ((wrap64 ((o8.length : Int) - 1))).toNat ((rdE e_II o8 (wrap64 ((o8.length : Int) - 1))).1, (rd x7 (wrap64 (x9 + 1))))) 
            · refine RT.goto rfl ?_
              refine RS.draw rfl ?_
              refine RD.br rfl (fun c19 => ?_) (fun c19 => RD.none)
              refine RD.br rfl (fun c20 => ?_) (fun c20 => RD.none)
              refine RD.br rfl (fun c21 => ?_) (fun c21 => RD.none)
              refine RD.br rfl (fun c22 => ?_) (fun c22 => RD.none)
              refine RD.req rfl ⟨by first | rfl | simp, by first | exact Nat.le_refl _ | simp⟩ ?_
              refine RD.not rfl (by simp <;> omega) ?_
              refine RD.br rfl (fun c23 => ?_) (fun _ => RD.none)
              refine RD.fin pileref1_AheadOf.k0 pileref1_AheadOf.k1 rfl rfl (by decide +kernel) ?_
              refine RS.obj 8 (bufE e_II (o8 ++ [((rd x7 x9), (rd x7 (wrap64 (x9 + 1))))])) ⟨_, rfl, LeO.app (l := o8) (m := [((rd x7 x9), (rd x7 (wrap64 (x9 + 1))))]) (cells_of rfl)⟩ ?_
              refine RS.slot 8 (.osl 8 e_II.w 0 (o8 ++ [((rd x7 x9), (rd x7 (wrap64 (x9 + 1))))]).length (o8 ++ [((rd x7 x9), (rd x7 (wrap64 (x9 + 1))))]).length) (Le.oslN rfl (by simp)) ?_
              refine RS.slot 87 (.osl 8 e_II.w 0 (o8 ++ [((rd x7 x9), (rd x7 (wrap64 (x9 + 1))))]).length (o8 ++ [((rd x7 x9), (rd x7 (wrap64 (x9 + 1))))]).length) (Le.oslN rfl (by simp)) ?_
              refine RS.go ?_
              refine RT.goto rfl ?_
              refine RS.weak [(0, sq eI l0), (1, sq eI l1), (5, .ref 5 0 0 0 2), (7, sq eI x7), (8, .osl 8 e_II.w 0 (o8 ++ [((rd x7 x9), (rd x7 (wrap64 (x9 + 1))))]).length (o8 ++ [((rd x7 x9), (rd x7 (wrap64 (x9 + 1))))]).length), (9, .int .i64 x9)] [(5, .box [.int .i64 a2_0, .int .i64 a2_1]), (8, bufE e_II (o8 ++ [((rd x7 x9), (rd x7 (wrap64 (x9 + 1))))]))] ⟨Le.eq (by first | rfl | simp), Le.eq (by first | rfl | simp), Le.eq (by first | rfl | simp), Le.eq (by first | rfl | simp), (by first | exact Le.oslN rfl (by first | rfl | simp) | exact Le.refl _ | exact Le.eq (by first | rfl | simp)), Le.eq (by first | rfl | simp), trivial⟩ ⟨⟨_, rfl, LeO.refl _⟩, ⟨_, rfl, LeO.refl _⟩, trivial⟩ rfl (dom0 rfl) ?_
              exact ih.1 l0 l1 a2_0 a2_1 x7 x9 (o8 ++ [((rd x7 x9), (rd x7 (wrap64 (x9 + 1))))]) 
          · refine RD.brF rfl ?_
            refine RD.brF rfl ?_
            refine RD.brF rfl ?_
            refine RD.brF rfl ?_
            refine RD.brF rfl ?_
            refine RD.brF rfl ?_
            refine RD.brF rfl ?_
            refine RD.brF rfl ?_
            refine RD.brF rfl ?_
            refine RD.brF rfl ?_
            refine RD.brF rfl ?_
            refine RD.fin pileref1_AheadOf.k4 pileref1_AheadOf.k3 rfl rfl (by decide +kernel) ?_
            refine RS.go ?_
            refine RT.brF rfl ?_
            refine RT.goto rfl ?_
            refine RS.draw rfl ?_
            refine RD.br rfl (fun c25 => ?_) (fun c25 => RD.none)
            refine RD.br rfl (fun c26 => ?_) (fun c26 => RD.none)
            refine RD.br rfl (fun c27 => ?_) (fun c27 => RD.none)
            refine RD.br rfl (fun c28 => ?_) (fun c28 => RD.none)
            refine RD.req rfl ⟨by first | rfl | simp, by first | exact Nat.le_refl _ | simp⟩ ?_
            refine RD.not rfl (by simp <;> omega) ?_
            refine RD.br rfl (fun c29 => ?_) (fun _ => RD.none)
            refine RD.fin pileref1_AheadOf.k0 pileref1_AheadOf.k1 rfl rfl (by decide +kernel) ?_
            refine RS.obj 8 (bufE e_II (o8 ++ [((rd x7 x9), (rd x7 (wrap64 (x9 + 1))))])) ⟨_, rfl, LeO.app (l := o8) (m := [((rd x7 x9), (rd x7 (wrap64 (x9 + 1))))]) (cells_of rfl)⟩ ?_
            refine RS.slot 8 (.osl 8 e_II.w 0 (o8 ++ [((rd x7 x9), (rd x7 (wrap64 (x9 + 1))))]).length (o8 ++ [((rd x7 x9), (rd x7 (wrap64 (x9 + 1))))]).length) (Le.oslN rfl (by simp)) ?_
            refine RS.slot 87 (.osl 8 e_II.w 0 (o8 ++ [((rd x7 x9), (rd x7 (wrap64 (x9 + 1))))]).length (o8 ++ [((rd x7 x9), (rd x7 (wrap64 (x9 + 1))))]).length) (Le.oslN rfl (by simp)) ?_
            refine RS.go ?_
            refine RT.goto rfl ?_
            refine RS.weak [(0, sq eI l0), (1, sq eI l1), (5, .ref 5 0 0 0 2), (7, sq eI x7), (8, .osl 8 e_II.w 0 (o8 ++ [((rd x7 x9), (rd x7 (wrap64 (x9 + 1))))]).length (o8 ++ [((rd x7 x9), (rd x7 (wrap64 (x9 + 1))))]).length), (9, .int .i64 x9)] [(5, .box [.int .i64 a2_0, .int .i64 a2_1]), (8, bufE e_II (o8 ++ [((rd x7 x9), (rd x7 (wrap64 (x9 + 1))))]))] ⟨Le.eq (by first | rfl | simp), Le.eq (by first | rfl | simp), Le.eq (by first | rfl | simp), Le.eq (by first | rfl | simp), (by first | exact Le.oslN rfl (by first | rfl | simp) | exact Le.refl _ | exact Le.eq (by first | rfl | simp)), Le.eq (by first | rfl | simp), trivial⟩ ⟨⟨_, rfl, LeO.refl _⟩, ⟨_, rfl, LeO.refl _⟩, trivial⟩ rfl (dom0 rfl) ?_
            exact ih.1 l0 l1 a2_0 a2_1 x7 x9 (o8 ++ [((rd x7 x9), (rd x7 (wrap64 (x9 + 1))))]) 
      · refine RT.freeze 8 _ _ _ [(6, sq e_II o8)] [] rfl rfl ⟨.inr ⟨_, rfl, by first | exact Nat.le_refl _ | simp, rfl⟩, trivial⟩ trivial rfl (dom0 rfl) ?_
        exact RT.done rfl rfl (Le.refl _) trivial rfl (dom0 rfl)
theorem pileref1_AheadOf.ok (k : Nat) (l0 : List Int) (l1 : List Int) (a2_0 : Int) (a2_1 : Int) (r : (List (Int × Int))) (h : pileref1_AheadOf.f k l0 l1 a2_0 a2_1 = some r) : Ct Try.prog B 35 [sq eI l0, sq eI l1, .agg [.int .i64 a2_0, .int .i64 a2_1]] (ofL []) (sq e_II r) (ofL []) := by
  refine Ct.of (Y := (fam Try.f35 [4, 7] [16] [] (fun r : (List (Int × Int)) => sq e_II r) (fun r => []))) Try.func35 rfl Try.call35 rfl rfl ?_ r h
  unfold pileref1_AheadOf.f
  refine RS.go ?_
  refine RT.goto rfl ?_
  refine RS.draw rfl ?_
  refine RD.call (CR := []) (CW := (fun r => [(24, bufE eI (r.1 ++ r.2))])) rfl (fun _ h => slices_Concat_int_int.ok k [l0, l1] _ h) (fun i => bif Nat.beq i 24 then 20 else i) trivial (fun _ => rfl) ⟨_, _, _, _, rfl, rfl, rfl⟩ (LeL.cons (Le.lit (E := e_L) (l := [l0, l1]) (cells_of rfl)) (LeL.nil)) trivial (fun _ => rfl) (fun r1 => ?_)
  refine RD.iff (fun c2 => ?_)
  refine RD.req rfl ⟨by first | rfl | simp, by first | exact Nat.le_refl _ | rfl | simp⟩ ?_
  refine RD.req rfl ⟨by first | rfl | simp, by first | exact Nat.le_refl _ | rfl | simp⟩ ?_
  refine RD.ifG rfl (fun c3 => ?_) (fun c3 => ?_)
  · refine RD.fin pileref1_AheadOf.k9 pileref1_AheadOf.k10 rfl rfl (by decide +kernel) ?_
    refine RS.obj 16 (bufE eI ([a2_0, a2_1] ++ r1.1)) ⟨_, rfl, by refine LeO.appA (E := eI) (l := [a2_0, a2_1]) (m := r1.1) (f2 := fun i j => rep eI (r1.1 ++ r1.2) (0 + i) j) ?_ (of_decide_eq_true c3); exact cells_of rfl⟩ ?_
    refine RS.slot 7 (.osl 16 eI.w 0 ([a2_0, a2_1] ++ r1.1).length ([a2_0, a2_1] ++ r1.1).length) (Le.osl2 rfl rfl (by first | (simp; done) | (simp; omega)) (by have h1 := of_decide_eq_true c3; have h2 : ([a2_0, a2_1] ++ r1.1).length = ([a2_0, a2_1]).length + (r1.1).length := List.length_append; (try simp only [List.length_cons, List.length_nil] at h1 h2 ⊢); omega)) ?_
    refine RS.slot 21 (.osl 16 eI.w 0 ([a2_0, a2_1] ++ r1.1).length ([a2_0, a2_1] ++ r1.1).length) (Le.osl2 rfl rfl (by first | (simp; done) | (simp; omega)) (by have h1 := of_decide_eq_true c3; have h2 : ([a2_0, a2_1] ++ r1.1).length = ([a2_0, a2_1]).length + (r1.1).length := List.length_append; (try simp only [List.length_cons, List.length_nil] at h1 h2 ⊢); omega)) ?_
    refine RS.go ?_
    refine RT.call rfl (fun _ h => slices_Sort_int_int.ok ([a2_0, a2_1] ++ r1.1) _ h) (fun i => bif Nat.beq i 100000 then 16 else i) (LeL.eq rfl) ⟨⟨_, rfl, LeO.refl _⟩, trivial⟩ (fun _ => rfl) (fun r4 => ?_)
    refine RS.asm (fun c5 => ?_)
    refine RS.slot 21 (.osl 16 eI.w 0 r4.length r4.length) (Le.oslN rfl c5) ?_
    refine RS.slot 7 (.osl 16 eI.w 0 r4.length r4.length) (Le.oslN rfl c5) ?_
    refine RS.slot 22 (.osl 16 eI.w 0 r4.length r4.length) (Le.oslN rfl c5) ?_
    refine RS.go ?_
    refine RT.call rfl (fun _ h => slices_Compact_int_int.ok r4 _ h) (fun i => bif Nat.beq i 100000 then 16 else i) (LeL.eq rfl) ⟨⟨_, rfl, LeO.refl _⟩, trivial⟩ (fun _ => rfl) (fun r6 => ?_)
    refine RS.go ?_
    refine RT.goto rfl ?_
    refine RS.freeze 16 _ _ _ [(0, sq eI l0), (1, sq eI l1), (5, .ref 5 0 0 0 2), (7, .sl r6.1.length eI.w (rep eI (r6.1 ++ r6.2)))] [(5, .box [.int .i64 a2_0, .int .i64 a2_1])] rfl ⟨.inl (Le.refl _), .inl (Le.refl _), .inl (Le.refl _), .inr ⟨_, rfl, by first | exact Nat.le_refl _ | simp, rfl⟩, trivial⟩ ⟨⟨_, rfl, LeO.refl _⟩, trivial⟩ rfl (dom0 rfl) ?_
    refine RS.slot 7 (sq eI r6.1) Le.pre ?_
    refine RS.region ?_
    refine RS.go ?_
    refine RT.goto rfl ?_
    refine RS.ghost 8 8 e_II.w (rep e_II []) rfl rfl ?_
    refine RS.weak [(0, sq eI l0), (1, sq eI l1), (5, .ref 5 0 0 0 2), (7, sq eI r6.1), (8, .osl 8 e_II.w 0 ([] : List (Int × Int)).length ([] : List (Int × Int)).length), (9, .int .i64 0)] [(5, .box [.int .i64 a2_0, .int .i64 a2_1]), (8, bufE e_II ([] : List (Int × Int)))] ⟨Le.eq (by first | rfl | simp), Le.eq (by first | rfl | simp), Le.eq (by first | rfl | simp), Le.eq (by first | rfl | simp), (by first | exact Le.oslN rfl (by first | rfl | simp) | exact Le.refl _ | exact Le.eq (by first | rfl | simp)), Le.eq (by first | rfl | simp), trivial⟩ ⟨⟨_, rfl, LeO.refl _⟩, ⟨_, rfl, LeO.refl _⟩, trivial⟩ rfl (dom0 rfl) ?_
    exact (pileref1_AheadOf.loops k).2 l0 l1 a2_0 a2_1 r6.1 0 [] 
  · refine RD.sure rfl (by simpa using c2) ?_
    refine RD.fin pileref1_AheadOf.k9 pileref1_AheadOf.k10 rfl rfl (by decide +kernel) ?_
    refine RS.obj 16 (bufE eI ([a2_0, a2_1] ++ r1.1)) ⟨_, rfl, by refine LeO.appB (E := eI) (l := [a2_0, a2_1]) (m := r1.1) (f2 := fun i j => rep eI (r1.1 ++ r1.2) (0 + i) j) ?_ ?_; exact cells_of rfl; intro i j hi _; first | rfl | exact rep_src hi | simp⟩ ?_
    refine RS.slot 7 (.osl 16 eI.w 0 ([a2_0, a2_1] ++ r1.1).length ([a2_0, a2_1] ++ r1.1).length) (Le.osl2 rfl rfl (by first | (simp; done) | (simp; omega)) (by first | (simp; done) | (simp; omega))) ?_
    refine RS.slot 21 (.osl 16 eI.w 0 ([a2_0, a2_1] ++ r1.1).length ([a2_0, a2_1] ++ r1.1).length) (Le.osl2 rfl rfl (by first | (simp; done) | (simp; omega)) (by first | (simp; done) | (simp; omega))) ?_
    refine RS.go ?_
    refine RT.call rfl (fun _ h => slices_Sort_int_int.ok ([a2_0, a2_1] ++ r1.1) _ h) (fun i => bif Nat.beq i 100000 then 16 else i) (LeL.eq rfl) ⟨⟨_, rfl, LeO.refl _⟩, trivial⟩ (fun _ => rfl) (fun r4 => ?_)
    refine RS.asm (fun c5 => ?_)
    refine RS.slot 21 (.osl 16 eI.w 0 r4.length r4.length) (Le.oslN rfl c5) ?_
    refine RS.slot 7 (.osl 16 eI.w 0 r4.length r4.length) (Le.oslN rfl c5) ?_
    refine RS.slot 22 (.osl 16 eI.w 0 r4.length r4.length) (Le.oslN rfl c5) ?_
    refine RS.go ?_
    refine RT.call rfl (fun _ h => slices_Compact_int_int.ok r4 _ h) (fun i => bif Nat.beq i 100000 then 16 else i) (LeL.eq rfl) ⟨⟨_, rfl, LeO.refl _⟩, trivial⟩ (fun _ => rfl) (fun r6 => ?_)
    refine RS.go ?_
    refine RT.goto rfl ?_
    refine RS.freeze 16 _ _ _ [(0, sq eI l0), (1, sq eI l1), (5, .ref 5 0 0 0 2), (7, .sl r6.1.length eI.w (rep eI (r6.1 ++ r6.2)))] [(5, .box [.int .i64 a2_0, .int .i64 a2_1])] rfl ⟨.inl (Le.refl _), .inl (Le.refl _), .inl (Le.refl _), .inr ⟨_, rfl, by first | exact Nat.le_refl _ | simp, rfl⟩, trivial⟩ ⟨⟨_, rfl, LeO.refl _⟩, trivial⟩ rfl (dom0 rfl) ?_
    refine RS.slot 7 (sq eI r6.1) Le.pre ?_
    refine RS.region ?_
    refine RS.go ?_
    refine RT.goto rfl ?_
    refine RS.ghost 8 8 e_II.w (rep e_II []) rfl rfl ?_
    refine RS.weak [(0, sq eI l0), (1, sq eI l1), (5, .ref 5 0 0 0 2), (7, sq eI r6.1), (8, .osl 8 e_II.w 0 ([] : List (Int × Int)).length ([] : List (Int × Int)).length), (9, .int .i64 0)] [(5, .box [.int .i64 a2_0, .int .i64 a2_1]), (8, bufE e_II ([] : List (Int × Int)))] ⟨Le.eq (by first | rfl | simp), Le.eq (by first | rfl | simp), Le.eq (by first | rfl | simp), Le.eq (by first | rfl | simp), (by first | exact Le.oslN rfl (by first | rfl | simp) | exact Le.refl _ | exact Le.eq (by first | rfl | simp)), Le.eq (by first | rfl | simp), trivial⟩ ⟨⟨_, rfl, LeO.refl _⟩, ⟨_, rfl, LeO.refl _⟩, trivial⟩ rfl (dom0 rfl) ?_
    exact (pileref1_AheadOf.loops k).2 l0 l1 a2_0 a2_1 r6.1 0 [] 
/-! ### slices_Equal_int_int: function 36 -/
def slices_Equal_int_int.k0 : List DK := [⟨[19, 23], [], [24], []⟩, ⟨[22], [], [23], []⟩, ⟨[20, 21], [], [22], []⟩, ⟨[5], [], [21], []⟩, ⟨[1], [], [20], []⟩, ⟨[18], [], [19], []⟩, ⟨[16, 17], [], [18], []⟩, ⟨[5], [], [17], []⟩, ⟨[0], [], [16], []⟩]
def slices_Equal_int_int.k1 : List Nat := [0, 0, 3, 7, 0, 0, 48, 112, 255]
def slices_Equal_int_int.l0 : Nat → List Int → List Int → Int → Option (Bool)
  | 0, _, _, _ => Option.none
  | k + 1, l0, l1, x13 => (if x13 < (l0.length : Int) then (if 0 ≤ x13 then (if x13 < (l0.length : Int) then (if 0 ≤ x13 then (if x13 < (l1.length : Int) then (if (rd l0 x13) = (rd l1 x13) then slices_Equal_int_int.l0 k l0 l1 (wrap64 (x13 + 1)) else Option.some false) else Option.none) else Option.none) else Option.none) else Option.none) else Option.some true)
def slices_Equal_int_int.f (k : Nat) (l0 : List Int) (l1 : List Int) : Option (Bool) := (if (l0.length : Int) = (l1.length : Int) then slices_Equal_int_int.l0 k l0 l1 0 else Option.some false)
theorem slices_Equal_int_int.loops : ∀ k, (∀ (l0 : List Int) (l1 : List Int) (x13 : Int), RS (fam Try.f36 [] [] [] (fun r : Bool => .bool r) (fun r => [])) (Func.head Try.f36 0) ⟨ofT [(0, sq eI l0), (1, sq eI l1), (12, .int .i64 (l0.length : Int)), (13, .int .i64 x13)], ofL []⟩ (slices_Equal_int_int.l0 k l0 l1 x13))
  | 0 => by intro _ _ _; simp only [slices_Equal_int_int.l0]; exact RS.none
  | k + 1 => by
    have ih := slices_Equal_int_int.loops k
    · intro l0 l1 x13
      simp only [slices_Equal_int_int.l0]
      refine RS.go ?_
      refine RT.br rfl (fun c6 => ?_) (fun c6 => ?_)
      · refine RT.goto rfl ?_
        refine RS.draw rfl ?_
        refine RD.br rfl (fun c1 => ?_) (fun c1 => RD.none)
        refine RD.br rfl (fun c2 => ?_) (fun c2 => RD.none)
        refine RD.br rfl (fun c3 => ?_) (fun c3 => RD.none)
        refine RD.br rfl (fun c4 => ?_) (fun c4 => RD.none)
        refine RD.fin slices_Equal_int_int.k0 slices_Equal_int_int.k1 rfl rfl (by decide +kernel) ?_
        refine RS.go ?_
        refine RT.brN rfl (fun c5 => ?_) (fun c5 => ?_)
        · refine RT.goto rfl ?_
          refine RS.weak [(0, sq eI l0), (1, sq eI l1), (12, .int .i64 (l0.length : Int)), (13, .int .i64 (wrap64 (x13 + 1)))] [] ⟨Le.eq (by first | rfl | simp), Le.eq (by first | rfl | simp), Le.eq (by first | rfl | simp), Le.eq (by first | rfl | simp), trivial⟩ trivial rfl (dom0 rfl) ?_
          exact ih l0 l1 (wrap64 (x13 + 1)) 
        · exact RT.done rfl rfl (Le.refl _) trivial rfl (dom0 rfl)
      · exact RT.done rfl rfl (Le.refl _) trivial rfl (dom0 rfl)
theorem slices_Equal_int_int.ok (k : Nat) (l0 : List Int) (l1 : List Int) (r : Bool) (h : slices_Equal_int_int.f k l0 l1 = some r) : Ct Try.prog B 36 [sq eI l0, sq eI l1] (ofL []) (.bool r) (ofL []) := by
  refine Ct.of (Y := (fam Try.f36 [] [] [] (fun r : Bool => .bool r) (fun r => []))) Try.func36 rfl Try.call36 rfl rfl ?_ r h
  unfold slices_Equal_int_int.f
  refine RS.go ?_
  refine RT.brN rfl (fun c7 => ?_) (fun c7 => ?_)
  · refine RT.goto rfl ?_
    refine RS.weak [(0, sq eI l0), (1, sq eI l1), (12, .int .i64 (l0.length : Int)), (13, .int .i64 0)] [] ⟨Le.eq (by first | rfl | simp), Le.eq (by first | rfl | simp), Le.eq (by first | rfl | simp), Le.eq (by first | rfl | simp), trivial⟩ trivial rfl (dom0 rfl) ?_
    exact slices_Equal_int_int.loops k l0 l1 0 
  · exact RT.done rfl rfl (Le.refl _) trivial rfl (dom0 rfl)
/-! ### slices_Equal_api_Window_api_Window: function 16 -/
def slices_Equal_api_Window_api_Window.k0 : List DK := [⟨[19, 23], [], [24], []⟩, ⟨[22], [], [23], []⟩, ⟨[20, 21], [], [22], []⟩, ⟨[5], [], [21], []⟩, ⟨[1], [], [20], []⟩, ⟨[18], [], [19], []⟩, ⟨[16, 17], [], [18], []⟩, ⟨[5], [], [17], []⟩, ⟨[0], [], [16], []⟩]
def slices_Equal_api_Window_api_Window.k1 : List Nat := [0, 0, 3, 7, 0, 0, 48, 112, 255]
def slices_Equal_api_Window_api_Window.l0 : Nat → List (Int × Int) → List (Int × Int) → Int → Option (Bool)
  | 0, _, _, _ => Option.none
  | k + 1, l0, l1, x13 => (if x13 < (l0.length : Int) then (if 0 ≤ x13 then (if x13 < (l0.length : Int) then (if 0 ≤ x13 then (if x13 < (l1.length : Int) then (if (decide ((rdE e_II l0 x13).1 = (rdE e_II l1 x13).1) && (decide ((rdE e_II l0 x13).2 = (rdE e_II l1 x13).2) && true)) = true then slices_Equal_api_Window_api_Window.l0 k l0 l1 (wrap64 (x13 + 1)) else Option.some false) else Option.none) else Option.none) else Option.none) else Option.none) else Option.some true)
def slices_Equal_api_Window_api_Window.f (k : Nat) (l0 : List (Int × Int)) (l1 : List (Int × Int)) : Option (Bool) := (if (l0.length : Int) = (l1.length : Int) then slices_Equal_api_Window_api_Window.l0 k l0 l1 0 else Option.some false)
theorem slices_Equal_api_Window_api_Window.loops : ∀ k, (∀ (l0 : List (Int × Int)) (l1 : List (Int × Int)) (x13 : Int), RS (fam Try.f16 [] [] [] (fun r : Bool => .bool r) (fun r => [])) (Func.head Try.f16 0) ⟨ofT [(0, sq e_II l0), (1, sq e_II l1), (12, .int .i64 (l0.length : Int)), (13, .int .i64 x13)], ofL []⟩ (slices_Equal_api_Window_api_Window.l0 k l0 l1 x13))
  | 0 => by intro _ _ _; simp only [slices_Equal_api_Window_api_Window.l0]; exact RS.none
  | k + 1 => by
    have ih := slices_Equal_api_Window_api_Window.loops k
    · intro l0 l1 x13
      simp only [slices_Equal_api_Window_api_Window.l0]
      refine RS.go ?_
      refine RT.br rfl (fun c6 => ?_) (fun c6 => ?_)
      · refine RT.goto rfl ?_
        refine RS.draw rfl ?_
        refine RD.br rfl (fun c1 => ?_) (fun c1 => RD.none)
        refine RD.br rfl (fun c2 => ?_) (fun c2 => RD.none)
        refine RD.br rfl (fun c3 => ?_) (fun c3 => RD.none)
        refine RD.br rfl (fun c4 => ?_) (fun c4 => RD.none)
        refine RD.fin slices_Equal_api_Window_api_Window.k0 slices_Equal_api_Window_api_Window.k1 rfl rfl (by decide +kernel) ?_
        refine RS.go ?_
        refine RT.brBN rfl (fun c5 => ?_) (fun c5 => ?_)
        · refine RT.goto rfl ?_
          refine RS.weak [(0, sq e_II l0), (1, sq e_II l1), (12, .int .i64 (l0.length : Int)), (13, .int .i64 (wrap64 (x13 + 1)))] [] ⟨Le.eq (by first | rfl | simp), Le.eq (by first | rfl | simp), Le.eq (by first | rfl | simp), Le.eq (by first | rfl | simp), trivial⟩ trivial rfl (dom0 rfl) ?_
          exact ih l0 l1 (wrap64 (x13 + 1)) 
        · exact RT.done rfl rfl (Le.refl _) trivial rfl (dom0 rfl)
      · exact RT.done rfl rfl (Le.refl _) trivial rfl (dom0 rfl)
theorem slices_Equal_api_Window_api_Window.ok (k : Nat) (l0 : List (Int × Int)) (l1 : List (Int × Int)) (r : Bool) (h : slices_Equal_api_Window_api_Window.f k l0 l1 = some r) : Ct Try.prog B 16 [sq e_II l0, sq e_II l1] (ofL []) (.bool r) (ofL []) := by
  refine Ct.of (Y := (fam Try.f16 [] [] [] (fun r : Bool => .bool r) (fun r => []))) Try.func16 rfl Try.call16 rfl rfl ?_ r h
  unfold slices_Equal_api_Window_api_Window.f
  refine RS.go ?_
  refine RT.brN rfl (fun c7 => ?_) (fun c7 => ?_)
  · refine RT.goto rfl ?_
    refine RS.weak [(0, sq e_II l0), (1, sq e_II l1), (12, .int .i64 (l0.length : Int)), (13, .int .i64 0)] [] ⟨Le.eq (by first | rfl | simp), Le.eq (by first | rfl | simp), Le.eq (by first | rfl | simp), Le.eq (by first | rfl | simp), trivial⟩ trivial rfl (dom0 rfl) ?_
    exact slices_Equal_api_Window_api_Window.loops k l0 l1 0 
  · exact RT.done rfl rfl (Le.refl _) trivial rfl (dom0 rfl)
/-! ### rate_Best: function 55 -/
def rate_Best.k0 : List DK := [⟨[34], [], [11], []⟩, ⟨[25], [], [10], []⟩, ⟨[26, 33], [], [34], []⟩, ⟨[28, 32], [], [33], []⟩, ⟨[30, 31], [], [32], []⟩, ⟨[2], [], [31], []⟩, ⟨[29], [4], [30], []⟩, ⟨[4], [4], [29], []⟩, ⟨[27], [4], [28], []⟩, ⟨[4], [4], [27], []⟩, ⟨[0], [], [26], []⟩, ⟨[24], [4], [25], []⟩, ⟨[4], [4], [24], []⟩]
def rate_Best.k1 : List Nat := [0, 1, 0, 0, 8, 0, 32, 0, 224, 504, 1020, 2047, 4095]
mutual
def rate_Best.j13 : Nat → List Int → Int → Int → Int → Int → Option (Int × Int × Int)
  | 0, _, _, _, _, _ => Option.none
  | k + 1, l0, a2, x37, x10j13, x11j13 => rate_Best.l0 k l0 a2 x10j13 x11j13 (wrap64 (x37 + 1))
def rate_Best.l0 : Nat → List Int → Int → Int → Int → Int → Option (Int × Int × Int)
  | 0, _, _, _, _, _ => Option.none
  | k + 1, l0, a2, x10, x11, x37 => (if x37 < (l0.length : Int) then (if 0 ≤ x37 then (if x37 < (l0.length : Int) then ((rate_in.f k l0 (rd l0 x37) (wrap64 ((rd l0 x37) + a2))).bind fun r6 => (if r6 > x11 then rate_Best.j13 k l0 a2 x37 (rd l0 x37) r6 else rate_Best.j13 k l0 a2 x37 x10 x11)) else Option.none) else Option.none) else Option.some (x10, x11, 0))
end
def rate_Best.f (k : Nat) (l0 : List Int) (a1_0 : Int) (a1_1 : Int) (a2 : Int) : Option (Int × Int × Int) := ((rate_CheckTimes.f k l0 a1_0 a1_1).bind fun r1 => (if r1 = 0 then ((rate_isLong.f a2).bind fun r2 => (if r2 = true then ((rate_in.f k l0 a1_0 (wrap64 (a1_0 + a2))).bind fun r3 => rate_Best.l0 k l0 a2 a1_0 r3 0) else Option.some (0, 0, 1))) else Option.some (0, 0, r1)))
theorem rate_Best.loops : ∀ k, (∀ (l0 : List Int) (a2 : Int) (x37 : Int) (x10j13 : Int) (x11j13 : Int), RS (fam Try.f55 [13] [] [] (fun r : Int × Int × Int => .tup [.int .i64 r.1, .int .i64 r.2.1, .int .i64 r.2.2]) (fun r => [])) (Func.reg Try.f55 13) ⟨ofT [(0, sq eI l0), (2, .int .i64 a2), (10, .int .i64 x10j13), (11, .int .i64 x11j13), (35, sq eI l0), (36, .int .i64 (l0.length : Int)), (37, .int .i64 x37)], ofL []⟩ (rate_Best.j13 k l0 a2 x37 x10j13 x11j13)) ∧ (∀ (l0 : List Int) (a2 : Int) (x10 : Int) (x11 : Int) (x37 : Int), RS (fam Try.f55 [13] [] [] (fun r : Int × Int × Int => .tup [.int .i64 r.1, .int .i64 r.2.1, .int .i64 r.2.2]) (fun r => [])) (Func.head Try.f55 0) ⟨ofT [(0, sq eI l0), (2, .int .i64 a2), (10, .int .i64 x10), (11, .int .i64 x11), (35, sq eI l0), (36, .int .i64 (l0.length : Int)), (37, .int .i64 x37)], ofL []⟩ (rate_Best.l0 k l0 a2 x10 x11 x37))
  | 0 => ⟨by intro _ _ _ _ _; simp only [rate_Best.j13]; exact RS.none, by intro _ _ _ _ _; simp only [rate_Best.l0]; exact RS.none⟩
  | k + 1 => by
    have ih := rate_Best.loops k
    refine ⟨?_, ?_⟩
    · intro l0 a2 x37 x10j13 x11j13
      simp only [rate_Best.j13]
      refine RS.region ?_
      refine RS.go ?_
      refine RT.goto rfl ?_
      refine RS.weak [(0, sq eI l0), (2, .int .i64 a2), (10, .int .i64 x10j13), (11, .int .i64 x11j13), (35, sq eI l0), (36, .int .i64 (l0.length : Int)), (37, .int .i64 (wrap64 (x37 + 1)))] [] ⟨Le.eq (by first | rfl | simp), Le.eq (by first | rfl | simp), Le.eq (by first | rfl | simp), Le.eq (by first | rfl | simp), Le.eq (by first | rfl | simp), Le.eq (by first | rfl | simp), Le.eq (by first | rfl | simp), trivial⟩ trivial rfl (dom0 rfl) ?_
      exact ih.2 l0 a2 x10j13 x11j13 (wrap64 (x37 + 1)) 
    · intro l0 a2 x10 x11 x37
      simp only [rate_Best.l0]
      refine RS.go ?_
      refine RT.br rfl (fun c8 => ?_) (fun c8 => ?_)
      · refine RT.br rfl (fun c4 => ?_) (fun c4 => RT.none)
        refine RT.br rfl (fun c5 => ?_) (fun c5 => RT.none)
        refine RT.call0 rfl (fun _ h => rate_in.ok k l0 (rd l0 x37) (wrap64 ((rd l0 x37) + a2)) _ h) (LeL.eq rfl) (fun _ => rfl) (fun r6 => ?_)
        refine RS.go ?_
        refine RT.br rfl (fun c7 => ?_) (fun c7 => ?_)
        · refine RT.goto rfl ?_
          refine RS.weak [(0, sq eI l0), (2, .int .i64 a2), (10, .int .i64 (rd l0 x37)), (11, .int .i64 r6), (35, sq eI l0), (36, .int .i64 (l0.length : Int)), (37, .int .i64 x37)] [] ⟨Le.eq (by first | rfl | simp), Le.eq (by first | rfl | simp), Le.eq (by first | rfl | simp), Le.eq (by first | rfl | simp), Le.eq (by first | rfl | simp), Le.eq (by first | rfl | simp), Le.eq (by first | rfl | simp), trivial⟩ trivial rfl (dom0 rfl) ?_
          exact ih.1 l0 a2 x37 (rd l0 x37) r6 
        · refine RT.goto rfl ?_
          refine RS.weak [(0, sq eI l0), (2, .int .i64 a2), (10, .int .i64 x10), (11, .int .i64 x11), (35, sq eI l0), (36, .int .i64 (l0.length : Int)), (37, .int .i64 x37)] [] ⟨Le.eq (by first | rfl | simp), Le.eq (by first | rfl | simp), Le.eq (by first | rfl | simp), Le.eq (by first | rfl | simp), Le.eq (by first | rfl | simp), Le.eq (by first | rfl | simp), Le.eq (by first | rfl | simp), trivial⟩ trivial rfl (dom0 rfl) ?_
          exact ih.1 l0 a2 x37 x10 x11 
      · exact RT.done rfl rfl (Le.tup (LeL.cons (Le.refl _) (LeL.cons (Le.refl _) (LeL.cons (Le.refl _) (LeL.nil))))) trivial rfl (dom0 rfl)
theorem rate_Best.ok (k : Nat) (l0 : List Int) (a1_0 : Int) (a1_1 : Int) (a2 : Int) (r : Int × Int × Int) (h : rate_Best.f k l0 a1_0 a1_1 a2 = some r) : Ct Try.prog B 55 [sq eI l0, .agg [.int .i64 a1_0, .int .i64 a1_1], .int .i64 a2] (ofL []) (.tup [.int .i64 r.1, .int .i64 r.2.1, .int .i64 r.2.2]) (ofL []) := by
  refine Ct.of (Y := (fam Try.f55 [13] [] [] (fun r : Int × Int × Int => .tup [.int .i64 r.1, .int .i64 r.2.1, .int .i64 r.2.2]) (fun r => []))) Try.func55 rfl Try.call55 rfl rfl ?_ r h
  unfold rate_Best.f
  refine RS.go ?_
  refine RT.call0 rfl (fun _ h => rate_CheckTimes.ok k l0 a1_0 a1_1 _ h) (LeL.eq rfl) (fun _ => rfl) (fun r1 => ?_)
  refine RS.go ?_
  refine RT.brN rfl (fun c10 => ?_) (fun c10 => ?_)
  · refine RT.call0 rfl (fun _ h => rate_isLong.ok a2 _ h) (LeL.eq rfl) (fun _ => rfl) (fun r2 => ?_)
    refine RS.go ?_
    refine RT.brBN rfl (fun c9 => ?_) (fun c9 => ?_)
    · refine RT.goto rfl ?_
      refine RS.draw rfl ?_
      refine RD.call (CR := []) (CW := (fun r => [])) rfl (fun _ h => rate_in.ok k l0 a1_0 (wrap64 (a1_0 + a2)) _ h) (fun i => i) trivial (fun _ => rfl) ⟨_, _, _, _, rfl, rfl, rfl⟩ (LeL.eq rfl) trivial (fun _ => rfl) (fun r3 => ?_)
      refine RD.fin rate_Best.k0 rate_Best.k1 rfl rfl (by decide +kernel) ?_
      refine RS.go ?_
      refine RT.goto rfl ?_
      refine RS.weak [(0, sq eI l0), (2, .int .i64 a2), (10, .int .i64 a1_0), (11, .int .i64 r3), (35, sq eI l0), (36, .int .i64 (l0.length : Int)), (37, .int .i64 0)] [] ⟨Le.eq (by first | rfl | simp), Le.eq (by first | rfl | simp), Le.eq (by first | rfl | simp), Le.eq (by first | rfl | simp), Le.eq (by first | rfl | simp), Le.eq (by first | rfl | simp), Le.eq (by first | rfl | simp), trivial⟩ trivial rfl (dom0 rfl) ?_
      exact (rate_Best.loops k).2 l0 a2 a1_0 r3 0 
    · exact RT.done rfl rfl (Le.tup (LeL.cons (Le.refl _) (LeL.cons (Le.refl _) (LeL.cons (Le.refl _) (LeL.nil))))) trivial rfl (dom0 rfl)
  · exact RT.done rfl rfl (Le.tup (LeL.cons (Le.refl _) (LeL.cons (Le.refl _) (LeL.cons (Le.refl _) (LeL.nil))))) trivial rfl (dom0 rfl)
/-! ### pilelaw1_rated: function 22 -/
def pilelaw1_rated.f (k : Nat) : Option (Bool) := ((rate_Best.f k [0, 600000, 1200000] 0 3600000 900000).bind fun r1 => (if r1.2.2 = 0 then (if r1.1 = 0 then Option.some (decide (r1.2.1 = 2)) else Option.some false) else Option.some false))
theorem pilelaw1_rated.ok (k : Nat) (r : Bool) (h : pilelaw1_rated.f k  = some r) : Ct Try.prog B 22 [] (ofL []) (.bool r) (ofL []) := by
  refine Ct.of (Y := (fam Try.f22 [] [] [] (fun r : Bool => .bool r) (fun r => []))) Try.func22 rfl Try.call22 rfl rfl ?_ r h
  unfold pilelaw1_rated.f
  refine RS.go ?_
  refine RT.goto rfl ?_
  refine RS.slot 5 (sq eI [0, 600000, 1200000]) (Le.lit (E := eI) (l := [0, 600000, 1200000]) (cells_of rfl)) ?_
  refine RS.go ?_
  refine RT.call0 rfl (fun _ h => rate_Best.ok k [0, 600000, 1200000] 0 3600000 900000 _ h) (LeL.eq rfl) (fun _ => rfl) (fun r1 => ?_)
  refine RS.go ?_
  refine RT.br rfl (fun c3 => ?_) (fun c3 => ?_)
  · refine RT.brT rfl ?_
    refine RT.brT rfl ?_
    refine RT.br rfl (fun c2 => ?_) (fun c2 => ?_)
    · refine RT.brT rfl ?_
      refine RT.brT rfl ?_
      exact RT.done rfl rfl (Le.refl _) trivial rfl (dom0 rfl)
    · refine RT.brF rfl ?_
      refine RT.brF rfl ?_
      exact RT.done rfl rfl (Le.refl _) trivial rfl (dom0 rfl)
  · refine RT.brF rfl ?_
    refine RT.brF rfl ?_
    refine RT.brF rfl ?_
    refine RT.brF rfl ?_
    refine RT.brF rfl ?_
    exact RT.done rfl rfl (Le.refl _) trivial rfl (dom0 rfl)
/-! ### pilelaw1_GoalsFollowed_1: function 25 -/
def pilelaw1_GoalsFollowed_1.f (a0 : Int) (v0_0 : Int) (v0_1 : Int) : Option (Bool) := (if a0 ≥ v0_1 then Option.some true else Option.some (decide (a0 < v0_0)))
theorem pilelaw1_GoalsFollowed_1.ok (a0 : Int) (v0_0 : Int) (v0_1 : Int) (r : Bool) (h : pilelaw1_GoalsFollowed_1.f a0 v0_0 v0_1 = some r) : Ct Try.prog B 25 [.int .i64 a0, .ref 300000 0 0 0 2] (ofL [(300000, .box [.int .i64 v0_0, .int .i64 v0_1])]) (.bool r) (ofL [(300000, .box [.int .i64 v0_0, .int .i64 v0_1])]) := by
  refine Ct.of (Y := (fam Try.f25 [] [] [(300000, .box [.int .i64 v0_0, .int .i64 v0_1])] (fun r : Bool => .bool r) (fun r => [(300000, .box [.int .i64 v0_0, .int .i64 v0_1])]))) Try.func25 rfl Try.call25 rfl rfl ?_ r h
  unfold pilelaw1_GoalsFollowed_1.f
  refine RS.go ?_
  refine RT.br rfl (fun c1 => ?_) (fun c1 => ?_)
  · refine RT.brT rfl ?_
    refine RT.brT rfl ?_
    refine RT.brT rfl ?_
    refine RT.brT rfl ?_
    exact RT.done rfl rfl (Le.refl _) ⟨⟨_, rfl, LeO.refl _⟩, trivial⟩ rfl (dom_of rfl)
  · refine RT.brF rfl ?_
    refine RT.brF rfl ?_
    refine RT.brF rfl ?_
    refine RT.brF rfl ?_
    exact RT.done rfl rfl (Le.refl _) ⟨⟨_, rfl, LeO.refl _⟩, trivial⟩ rfl (dom_of rfl)
/-! ### slices_IndexFunc_int_int_of_t_pilelaw1_GoalsFollowed_1: function 59 -/
def slices_IndexFunc_int_int_of_t_pilelaw1_GoalsFollowed_1.l0 : Nat → List Int → List Int → Int → Int → Int → Option (Int)
  | 0, _, _, _, _, _ => Option.none
  | k + 1, l0, l0t, c1_0_0, c1_0_1, x8 => (if x8 < (l0.length : Int) then (if 0 ≤ x8 then (if x8 < (l0.length : Int) then ((pilelaw1_GoalsFollowed_1.f (rd l0 x8) c1_0_0 c1_0_1).bind fun r3 => (if r3 = true then Option.some x8 else slices_IndexFunc_int_int_of_t_pilelaw1_GoalsFollowed_1.l0 k l0 l0t c1_0_0 c1_0_1 (wrap64 (x8 + 1)))) else Option.none) else Option.none) else Option.some (-1))
def slices_IndexFunc_int_int_of_t_pilelaw1_GoalsFollowed_1.f (k : Nat) (l0 : List Int) (l0t : List Int) (c1_0_0 : Int) (c1_0_1 : Int) : Option (Int) := slices_IndexFunc_int_int_of_t_pilelaw1_GoalsFollowed_1.l0 k l0 l0t c1_0_0 c1_0_1 0
theorem slices_IndexFunc_int_int_of_t_pilelaw1_GoalsFollowed_1.loops (l0 : List Int) (l0t : List Int) (c1_0_0 : Int) (c1_0_1 : Int) : ∀ k, (∀ (x8 : Int), RS (fam Try.f59 [1000015] [] [(250000, bufE eI (l0 ++ l0t)), (200100, .box [.int .i64 c1_0_0, .int .i64 c1_0_1])] (fun r : Int => .int .i64 r) (fun r => [(250000, bufE eI (l0 ++ l0t)), (200100, .box [.int .i64 c1_0_0, .int .i64 c1_0_1])])) (Func.head Try.f59 0) ⟨ofT [(0, .osl 250000 eI.w 0 l0.length (l0 ++ l0t).length), (1, .fn 25 [.ref 200100 0 0 0 2]), (7, .int .i64 (l0.length : Int)), (8, .int .i64 x8)], ofL [(200100, .box [.int .i64 c1_0_0, .int .i64 c1_0_1]), (250000, bufE eI (l0 ++ l0t))]⟩ (slices_IndexFunc_int_int_of_t_pilelaw1_GoalsFollowed_1.l0 k l0 l0t c1_0_0 c1_0_1 x8))
  | 0 => by intro _; simp only [slices_IndexFunc_int_int_of_t_pilelaw1_GoalsFollowed_1.l0]; exact RS.none
  | k + 1 => by
    have ih := slices_IndexFunc_int_int_of_t_pilelaw1_GoalsFollowed_1.loops l0 l0t c1_0_0 c1_0_1 k
    · intro x8
      simp only [slices_IndexFunc_int_int_of_t_pilelaw1_GoalsFollowed_1.l0]
      refine RS.go ?_
      refine RT.br rfl (fun c5 => ?_) (fun c5 => ?_)
      · refine RT.req rfl (by first | exact Nat.zero_add _ | rfl | simp) ?_
        refine RT.br rfl (fun c1 => ?_) (fun c1 => RT.none)
        refine RT.br rfl (fun c2 => ?_) (fun c2 => RT.none)
        refine RT.req rfl ⟨by first | rfl | simp, elt_lt c1 (le_room2 c2)⟩ ?_
        refine RT.goto rfl ?_
        refine RS.slot 15 (.int .i64 (rd l0 x8)) (Le.eq (congrArg (AV.int .i64) (rdE_pre (E := eI) c1 c2))) ?_
        refine RS.go ?_
        refine RT.call rfl (fun _ h => pilelaw1_GoalsFollowed_1.ok (rd l0 x8) c1_0_0 c1_0_1 _ h) (fun i => bif Nat.beq i 300000 then 200100 else i) (LeL.eq rfl) ⟨⟨_, rfl, LeO.refl _⟩, trivial⟩ (fun _ => rfl) (fun r3 => ?_)
        refine RS.go ?_
        refine RT.brB rfl (fun c4 => ?_) (fun c4 => ?_)
        · exact RT.done rfl rfl (Le.refl _) ⟨⟨_, rfl, LeO.refl _⟩, ⟨⟨_, rfl, LeO.refl _⟩, trivial⟩⟩ rfl (dom_of rfl)
        · refine RT.goto rfl ?_
          refine RS.weak [(0, .osl 250000 eI.w 0 l0.length (l0 ++ l0t).length), (1, .fn 25 [.ref 200100 0 0 0 2]), (7, .int .i64 (l0.length : Int)), (8, .int .i64 (wrap64 (x8 + 1)))] [(200100, .box [.int .i64 c1_0_0, .int .i64 c1_0_1]), (250000, bufE eI (l0 ++ l0t))] ⟨Le.osl2 rfl rfl (by first | rfl | simp) (by first | rfl | simp), Le.eq (by first | rfl | simp), Le.eq (by first | rfl | simp), Le.eq (by first | rfl | simp), trivial⟩ ⟨⟨_, rfl, LeO.refl _⟩, ⟨_, rfl, by first | exact LeO.refl _ | exact LeO.room0⟩, trivial⟩ rfl (dom_of rfl) ?_
          exact ih (wrap64 (x8 + 1)) 
      · exact RT.done rfl rfl (Le.refl _) ⟨⟨_, rfl, LeO.refl _⟩, ⟨⟨_, rfl, LeO.refl _⟩, trivial⟩⟩ rfl (dom_of rfl)
theorem slices_IndexFunc_int_int_of_t_pilelaw1_GoalsFollowed_1.ok (k : Nat) (l0 : List Int) (l0t : List Int) (c1_0_0 : Int) (c1_0_1 : Int) (r : Int) (h : slices_IndexFunc_int_int_of_t_pilelaw1_GoalsFollowed_1.f k l0 l0t c1_0_0 c1_0_1 = some r) : Ct Try.prog B 59 [.osl 250000 eI.w 0 l0.length (l0 ++ l0t).length, .fn 25 [.ref 200100 0 0 0 2]] (ofL [(250000, bufE eI (l0 ++ l0t)), (200100, .box [.int .i64 c1_0_0, .int .i64 c1_0_1])]) (.int .i64 r) (ofL [(250000, bufE eI (l0 ++ l0t)), (200100, .box [.int .i64 c1_0_0, .int .i64 c1_0_1])]) := by
  refine Ct.of (Y := (fam Try.f59 [1000015] [] [(250000, bufE eI (l0 ++ l0t)), (200100, .box [.int .i64 c1_0_0, .int .i64 c1_0_1])] (fun r : Int => .int .i64 r) (fun r => [(250000, bufE eI (l0 ++ l0t)), (200100, .box [.int .i64 c1_0_0, .int .i64 c1_0_1])]))) Try.func59 rfl Try.call59 rfl rfl ?_ r h
  unfold slices_IndexFunc_int_int_of_t_pilelaw1_GoalsFollowed_1.f
  refine RS.go ?_
  refine RT.req rfl (by first | exact Nat.zero_add _ | rfl | simp [szf, szOf]) ?_
  refine RT.goto rfl ?_
  refine RS.weak [(0, .osl 250000 eI.w 0 l0.length (l0 ++ l0t).length), (1, .fn 25 [.ref 200100 0 0 0 2]), (7, .int .i64 (l0.length : Int)), (8, .int .i64 0)] [(200100, .box [.int .i64 c1_0_0, .int .i64 c1_0_1]), (250000, bufE eI (l0 ++ l0t))] ⟨Le.osl2 rfl rfl (by first | rfl | simp) (by first | rfl | simp), Le.eq (by first | rfl | simp), Le.eq (by first | rfl | simp), Le.eq (by first | rfl | simp), trivial⟩ ⟨⟨_, rfl, LeO.refl _⟩, ⟨_, rfl, by first | exact LeO.refl _ | exact LeO.room0⟩, trivial⟩ rfl (dom_of rfl) ?_
  exact slices_IndexFunc_int_int_of_t_pilelaw1_GoalsFollowed_1.loops l0 l0t c1_0_0 c1_0_1 k 0 
/-! ### slices_DeleteFunc_int_int_of_t_pilelaw1_GoalsFollowed_1: function 24 -/
mutual
def slices_DeleteFunc_int_int_of_t_pilelaw1_GoalsFollowed_1.j6 : Nat → List Int → Int → Int → Int → Int → List Int → Option ((List Int) × (List Int))
  | 0, _, _, _, _, _, _ => Option.none
  | k + 1, l0t, c1_0_0, c1_0_1, x6, x5j6, o100000j6 => slices_DeleteFunc_int_int_of_t_pilelaw1_GoalsFollowed_1.l0 k l0t c1_0_0 c1_0_1 x5j6 (wrap64 (x6 + 1)) o100000j6
def slices_DeleteFunc_int_int_of_t_pilelaw1_GoalsFollowed_1.l0 : Nat → List Int → Int → Int → Int → Int → List Int → Option ((List Int) × (List Int))
  | 0, _, _, _, _, _, _ => Option.none
  | k + 1, l0t, c1_0_0, c1_0_1, x5, x6, o100000 => (if x6 < (o100000.length : Int) then (if 0 ≤ x6 then (if x6 < (o100000.length : Int) then ((pilelaw1_GoalsFollowed_1.f (rd o100000 x6) c1_0_0 c1_0_1).bind fun r4 => (if r4 = true then slices_DeleteFunc_int_int_of_t_pilelaw1_GoalsFollowed_1.j6 k l0t c1_0_0 c1_0_1 x6 x5 o100000 else (if 0 ≤ x5 then (if x5 < (o100000.length : Int) then slices_DeleteFunc_int_int_of_t_pilelaw1_GoalsFollowed_1.j6 k l0t c1_0_0 c1_0_1 x6 (wrap64 (x5 + 1)) (o100000.set (x5).toNat (rd o100000 x6)) else Option.none) else Option.none))) else Option.none) else Option.none) else (if 0 ≤ x5 then (if x5 ≤ (o100000.length : Int) then (if x5 < ((o100000 ++ l0t).length : Int) then (if 0 ≤ x5 then (if x5 ≤ ((o100000.take (x5).toNat ++ List.replicate (o100000.length - (x5).toNat) eI.d).length : Int) then Option.some ((o100000.take (x5).toNat ++ List.replicate (o100000.length - (x5).toNat) eI.d).take (x5).toNat, ((o100000.take (x5).toNat ++ List.replicate (o100000.length - (x5).toNat) eI.d).drop (x5).toNat) ++ l0t) else Option.none) else Option.none) else Option.none) else Option.none) else Option.none))
end
def slices_DeleteFunc_int_int_of_t_pilelaw1_GoalsFollowed_1.f (k : Nat) (l0 : List Int) (l0t : List Int) (c1_0_0 : Int) (c1_0_1 : Int) : Option ((List Int) × (List Int)) := ((slices_IndexFunc_int_int_of_t_pilelaw1_GoalsFollowed_1.f k l0 l0t c1_0_0 c1_0_1).bind fun r1 => (if r1 = (-1) then Option.some (l0, l0t) else slices_DeleteFunc_int_int_of_t_pilelaw1_GoalsFollowed_1.l0 k l0t c1_0_0 c1_0_1 r1 (wrap64 (r1 + 1)) l0))
theorem slices_DeleteFunc_int_int_of_t_pilelaw1_GoalsFollowed_1.loops (l0 : List Int) (l0t : List Int) (c1_0_0 : Int) (c1_0_1 : Int) : ∀ k, (∀ (x6 : Int) (x5j6 : Int) (o100000j6 : List Int), RS (fam Try.f24 [6, 1000025, 1000041] [] [(100000, bufE eI (l0 ++ l0t)), (200100, .box [.int .i64 c1_0_0, .int .i64 c1_0_1])] (fun r : (List Int) × (List Int) => .osl 100000 eI.w 0 r.1.length (r.1 ++ r.2).length) (fun r => [(200100, .box [.int .i64 c1_0_0, .int .i64 c1_0_1]), (100000, bufE eI (r.1 ++ r.2))])) (Func.reg Try.f24 6) ⟨ofT [(0, .osl 100000 eI.w 0 o100000j6.length (o100000j6 ++ l0t).length), (1, .fn 25 [.ref 200100 0 0 0 2]), (5, .int .i64 x5j6), (6, .int .i64 x6)], ofL [(100000, bufE eI (o100000j6 ++ l0t)), (200100, .box [.int .i64 c1_0_0, .int .i64 c1_0_1])]⟩ (slices_DeleteFunc_int_int_of_t_pilelaw1_GoalsFollowed_1.j6 k l0t c1_0_0 c1_0_1 x6 x5j6 o100000j6)) ∧ (∀ (x5 : Int) (x6 : Int) (o100000 : List Int), RS (fam Try.f24 [6, 1000025, 1000041] [] [(100000, bufE eI (l0 ++ l0t)), (200100, .box [.int .i64 c1_0_0, .int .i64 c1_0_1])] (fun r : (List Int) × (List Int) => .osl 100000 eI.w 0 r.1.length (r.1 ++ r.2).length) (fun r => [(200100, .box [.int .i64 c1_0_0, .int .i64 c1_0_1]), (100000, bufE eI (r.1 ++ r.2))])) (Func.head Try.f24 0) ⟨ofT [(0, .osl 100000 eI.w 0 o100000.length (o100000 ++ l0t).length), (1, .fn 25 [.ref 200100 0 0 0 2]), (5, .int .i64 x5), (6, .int .i64 x6)], ofL [(100000, bufE eI (o100000 ++ l0t)), (200100, .box [.int .i64 c1_0_0, .int .i64 c1_0_1])]⟩ (slices_DeleteFunc_int_int_of_t_pilelaw1_GoalsFollowed_1.l0 k l0t c1_0_0 c1_0_1 x5 x6 o100000))
  | 0 => ⟨by intro _ _ _; simp only [slices_DeleteFunc_int_int_of_t_pilelaw1_GoalsFollowed_1.j6]; exact RS.none, by intro _ _ _; simp only [slices_DeleteFunc_int_int_of_t_pilelaw1_GoalsFollowed_1.l0]; exact RS.none⟩
  | k + 1 => by
    have ih := slices_DeleteFunc_int_int_of_t_pilelaw1_GoalsFollowed_1.loops l0 l0t c1_0_0 c1_0_1 k
    refine ⟨?_, ?_⟩
    · intro x6 x5j6 o100000j6
      simp only [slices_DeleteFunc_int_int_of_t_pilelaw1_GoalsFollowed_1.j6]
      refine RS.region ?_
      refine RS.go ?_
      refine RT.goto rfl ?_
      refine RS.weak [(0, .osl 100000 eI.w 0 o100000j6.length (o100000j6 ++ l0t).length), (1, .fn 25 [.ref 200100 0 0 0 2]), (5, .int .i64 x5j6), (6, .int .i64 (wrap64 (x6 + 1)))] [(100000, bufE eI (o100000j6 ++ l0t)), (200100, .box [.int .i64 c1_0_0, .int .i64 c1_0_1])] ⟨Le.osl2 rfl rfl (by first | rfl | simp) (by first | rfl | simp), Le.eq (by first | rfl | simp), Le.eq (by first | rfl | simp), Le.eq (by first | rfl | simp), trivial⟩ ⟨⟨_, rfl, by first | exact LeO.refl _ | exact LeO.room0⟩, ⟨_, rfl, LeO.refl _⟩, trivial⟩ rfl (dom_of rfl) ?_
      exact ih.2 x5j6 (wrap64 (x6 + 1)) o100000j6 
    · intro x5 x6 o100000
      simp only [slices_DeleteFunc_int_int_of_t_pilelaw1_GoalsFollowed_1.l0]
      refine RS.go ?_
      refine RT.req rfl (by first | exact Nat.zero_add _ | rfl | simp [szf, szOf]) ?_
      refine RT.br rfl (fun c13 => ?_) (fun c13 => ?_)
      · refine RT.req rfl (by first | exact Nat.zero_add _ | rfl | simp) ?_
        refine RT.br rfl (fun c2 => ?_) (fun c2 => RT.none)
        refine RT.br rfl (fun c3 => ?_) (fun c3 => RT.none)
        refine RT.req rfl ⟨by first | rfl | simp, elt_lt c2 (le_room2 c3)⟩ ?_
        refine RT.goto rfl ?_
        refine RS.slot 25 (.int .i64 (rd o100000 x6)) (Le.eq (congrArg (AV.int .i64) (rdE_pre (E := eI) c2 c3))) ?_
        refine RS.go ?_
        refine RT.call rfl (fun _ h => pilelaw1_GoalsFollowed_1.ok (rd o100000 x6) c1_0_0 c1_0_1 _ h) (fun i => bif Nat.beq i 300000 then 200100 else i) (LeL.eq rfl) ⟨⟨_, rfl, LeO.refl _⟩, trivial⟩ (fun _ => rfl) (fun r4 => ?_)
        refine RS.go ?_
        refine RT.brBN rfl (fun c7 => ?_) (fun c7 => ?_)
        · refine RT.goto rfl ?_
          refine RS.weak [(0, .osl 100000 eI.w 0 o100000.length (o100000 ++ l0t).length), (1, .fn 25 [.ref 200100 0 0 0 2]), (5, .int .i64 x5), (6, .int .i64 x6)] [(100000, bufE eI (o100000 ++ l0t)), (200100, .box [.int .i64 c1_0_0, .int .i64 c1_0_1])] ⟨Le.osl2 rfl rfl (by first | rfl | simp) (by first | rfl | simp), Le.eq (by first | rfl | simp), Le.eq (by first | rfl | simp), Le.eq (by first | rfl | simp), trivial⟩ ⟨⟨_, rfl, by first | exact LeO.refl _ | exact LeO.room0⟩, ⟨_, rfl, LeO.refl _⟩, trivial⟩ rfl (dom_of rfl) ?_
          exact ih.1 x6 x5 o100000 
        · refine RT.req rfl (by first | exact Nat.zero_add _ | rfl | simp) ?_
          refine RT.br rfl (fun c5 => ?_) (fun c5 => RT.none)
          refine RT.br rfl (fun c6 => ?_) (fun c6 => RT.none)
          refine RT.req rfl ⟨by first | rfl | simp, elt_lt c5 (le_room2 c6)⟩ ?_
          refine RT.goto rfl ?_
          refine RS.obj 100000 (bufE eI ((o100000.set (x5).toNat (rd o100000 x6)) ++ l0t)) ⟨_, rfl, LeO.setT c5 c6 (all1 rfl)⟩ ?_
          refine RS.slot 0 (.osl 100000 eI.w 0 (o100000.set (x5).toNat (rd o100000 x6)).length ((o100000.set (x5).toNat (rd o100000 x6)) ++ l0t).length) (Le.osl2 rfl rfl (by simp) (by simp)) ?_
          refine RS.slot 17 (.osl 100000 eI.w 0 (o100000.set (x5).toNat (rd o100000 x6)).length ((o100000.set (x5).toNat (rd o100000 x6)) ++ l0t).length) (Le.osl2 rfl rfl (by simp) (by simp)) ?_
          refine RS.slot 22 (.osl 100000 eI.w 0 (o100000.set (x5).toNat (rd o100000 x6)).length ((o100000.set (x5).toNat (rd o100000 x6)) ++ l0t).length) (Le.osl2 rfl rfl (by simp) (by simp)) ?_
          refine RS.slot 30 (.osl 100000 eI.w 0 (o100000.set (x5).toNat (rd o100000 x6)).length ((o100000.set (x5).toNat (rd o100000 x6)) ++ l0t).length) (Le.osl2 rfl rfl (by simp) (by simp)) ?_
          refine RS.go ?_
          refine RT.goto rfl ?_
          refine RS.weak [(0, .osl 100000 eI.w 0 (o100000.set (x5).toNat (rd o100000 x6)).length ((o100000.set (x5).toNat (rd o100000 x6)) ++ l0t).length), (1, .fn 25 [.ref 200100 0 0 0 2]), (5, .int .i64 (wrap64 (x5 + 1))), (6, .int .i64 x6)] [(100000, bufE eI ((o100000.set (x5).toNat (rd o100000 x6)) ++ l0t)), (200100, .box [.int .i64 c1_0_0, .int .i64 c1_0_1])] ⟨Le.osl2 rfl rfl (by first | rfl | simp) (by first | rfl | simp), Le.eq (by first | rfl | simp), Le.eq (by first | rfl | simp), Le.eq (by first | rfl | simp), trivial⟩ ⟨⟨_, rfl, by first | exact LeO.refl _ | exact LeO.room0⟩, ⟨_, rfl, LeO.refl _⟩, trivial⟩ rfl (dom_of rfl) ?_
          exact ih.1 x6 (wrap64 (x5 + 1)) (o100000.set (x5).toNat (rd o100000 x6)) 
      · refine RT.req rfl (by first | exact Nat.zero_add _ | rfl | simp) ?_
        refine RT.br rfl (fun c8 => ?_) (fun c8 => RT.none)
        refine RT.br rfl (fun c9 => ?_) (fun c9 => RT.none)
        refine RT.br rfl (fun c10 => ?_) (fun c10 => RT.none)
        refine RT.req rfl (by have := c8; have := c9; refine ⟨?_, ?_⟩ <;> (try simp) <;> omega) ?_
        refine RT.goto rfl ?_
        refine RS.obj 100000 (bufE eI ((o100000.take (x5).toNat ++ List.replicate (o100000.length - (x5).toNat) eI.d) ++ l0t)) ⟨_, rfl, LeO.clrT (by simp) (by first | rfl | simp) (by have := c9; omega) (all1 rfl)⟩ ?_
        refine RS.slot 0 (.osl 100000 eI.w 0 (o100000.take (x5).toNat ++ List.replicate (o100000.length - (x5).toNat) eI.d).length ((o100000.take (x5).toNat ++ List.replicate (o100000.length - (x5).toNat) eI.d) ++ l0t).length) (Le.osl2 rfl rfl (by have := c8; have := c9; simp; omega) (by have := c8; have := c9; simp; omega)) ?_
        refine RS.slot 17 (.osl 100000 eI.w 0 (o100000.take (x5).toNat ++ List.replicate (o100000.length - (x5).toNat) eI.d).length ((o100000.take (x5).toNat ++ List.replicate (o100000.length - (x5).toNat) eI.d) ++ l0t).length) (Le.osl2 rfl rfl (by have := c8; have := c9; simp; omega) (by have := c8; have := c9; simp; omega)) ?_
        refine RS.slot 36 (.osl 100000 eI.w 0 (o100000.take (x5).toNat ++ List.replicate (o100000.length - (x5).toNat) eI.d).length ((o100000.take (x5).toNat ++ List.replicate (o100000.length - (x5).toNat) eI.d) ++ l0t).length) (Le.osl2 rfl rfl (by have := c8; have := c9; simp; omega) (by have := c8; have := c9; simp; omega)) ?_
        refine RS.go ?_
        refine RT.req rfl (by first | exact Nat.zero_add _ | rfl | simp) ?_
        refine RT.br rfl (fun c11 => ?_) (fun c11 => RT.none)
        refine RT.when (fun c12 => ?_)
        refine RT.sure rfl (decide_eq_true (by first | exact c12 | exact le_room c12)) ?_
        refine RT.goto rfl ?_
        refine RS.obj 100000 (bufE eI (((o100000.take (x5).toNat ++ List.replicate (o100000.length - (x5).toNat) eI.d).take (x5).toNat) ++ (((o100000.take (x5).toNat ++ List.replicate (o100000.length - (x5).toNat) eI.d).drop (x5).toNat) ++ l0t))) ⟨_, rfl, LeO.cut⟩ ?_
        refine RS.slot 41 (.osl 100000 eI.w 0 ((o100000.take (x5).toNat ++ List.replicate (o100000.length - (x5).toNat) eI.d).take (x5).toNat).length (((o100000.take (x5).toNat ++ List.replicate (o100000.length - (x5).toNat) eI.d).take (x5).toNat) ++ (((o100000.take (x5).toNat ++ List.replicate (o100000.length - (x5).toNat) eI.d).drop (x5).toNat) ++ l0t)).length) (Le.osl2 rfl rfl (len_take c11 c12) len_cut) ?_
        refine RS.go ?_
        exact RT.done rfl rfl (Le.refl _) ⟨⟨_, rfl, by first | exact LeO.refl _ | exact LeO.room0⟩, ⟨⟨_, rfl, by first | exact LeO.refl _ | exact LeO.room0⟩, trivial⟩⟩ rfl (dom_of rfl)
theorem slices_DeleteFunc_int_int_of_t_pilelaw1_GoalsFollowed_1.ok (k : Nat) (l0 : List Int) (l0t : List Int) (c1_0_0 : Int) (c1_0_1 : Int) (r : (List Int) × (List Int)) (h : slices_DeleteFunc_int_int_of_t_pilelaw1_GoalsFollowed_1.f k l0 l0t c1_0_0 c1_0_1 = some r) : Ct Try.prog B 24 [.osl 100000 eI.w 0 l0.length (l0 ++ l0t).length, .fn 25 [.ref 200100 0 0 0 2]] (ofL [(100000, bufE eI (l0 ++ l0t)), (200100, .box [.int .i64 c1_0_0, .int .i64 c1_0_1])]) (.osl 100000 eI.w 0 r.1.length (r.1 ++ r.2).length) (ofL [(200100, .box [.int .i64 c1_0_0, .int .i64 c1_0_1]), (100000, bufE eI (r.1 ++ r.2))]) := by
  refine Ct.of (Y := (fam Try.f24 [6, 1000025, 1000041] [] [(100000, bufE eI (l0 ++ l0t)), (200100, .box [.int .i64 c1_0_0, .int .i64 c1_0_1])] (fun r : (List Int) × (List Int) => .osl 100000 eI.w 0 r.1.length (r.1 ++ r.2).length) (fun r => [(200100, .box [.int .i64 c1_0_0, .int .i64 c1_0_1]), (100000, bufE eI (r.1 ++ r.2))]))) Try.func24 rfl Try.call24 rfl rfl ?_ r h
  unfold slices_DeleteFunc_int_int_of_t_pilelaw1_GoalsFollowed_1.f
  refine RS.go ?_
  refine RT.call rfl (fun _ h => slices_IndexFunc_int_int_of_t_pilelaw1_GoalsFollowed_1.ok k l0 l0t c1_0_0 c1_0_1 _ h) (fun i => bif Nat.beq i 200100 then 200100 else bif Nat.beq i 250000 then 100000 else i) (LeL.eq rfl) ⟨⟨_, rfl, by first | exact LeO.refl _ | exact LeO.room0⟩, ⟨⟨_, rfl, by first | exact LeO.refl _ | exact LeO.room0⟩, trivial⟩⟩ (fun _ => rfl) (fun r1 => ?_)
  refine RS.go ?_
  refine RT.br rfl (fun c14 => ?_) (fun c14 => ?_)
  · exact RT.done rfl rfl (Le.refl _) ⟨⟨_, rfl, by first | exact LeO.refl _ | exact LeO.room0⟩, ⟨⟨_, rfl, by first | exact LeO.refl _ | exact LeO.room0⟩, trivial⟩⟩ rfl (dom_of rfl)
  · refine RT.goto rfl ?_
    refine RS.weak [(0, .osl 100000 eI.w 0 l0.length (l0 ++ l0t).length), (1, .fn 25 [.ref 200100 0 0 0 2]), (5, .int .i64 r1), (6, .int .i64 (wrap64 (r1 + 1)))] [(100000, bufE eI (l0 ++ l0t)), (200100, .box [.int .i64 c1_0_0, .int .i64 c1_0_1])] ⟨Le.osl2 rfl rfl (by first | rfl | simp) (by first | rfl | simp), Le.eq (by first | rfl | simp), Le.eq (by first | rfl | simp), Le.eq (by first | rfl | simp), trivial⟩ ⟨⟨_, rfl, by first | exact LeO.refl _ | exact LeO.room0⟩, ⟨_, rfl, LeO.refl _⟩, trivial⟩ rfl (dom_of rfl) ?_
    exact (slices_DeleteFunc_int_int_of_t_pilelaw1_GoalsFollowed_1.loops l0 l0t c1_0_0 c1_0_1 k).2 r1 (wrap64 (r1 + 1)) l0 
/-! ### pilelaw1_GoalsFollowed: function 4 -/
mutual
def pilelaw1_GoalsFollowed.j25 : Nat → List Int → Int → Int → Bool → Int → List (Int × Int) → Int → Int → Int → Int → List Int → Int → Bool → List (Int × Int) → Option (Bool)
  | 0, _, _, _, _, _, _, _, _, _, _, _, _, _, _ => Option.none
  | k + 1, x12j14, x13j14, x14j14, x15j14, x16j14, x17j14, x18j14, x19j14, x20j21, x21j21, x22j21, x23j23, x24j23, x25j25 => (if x13j14 = x19j14 then ((slices_Equal_int_int.f k x12j14 x22j21).bind fun r23 => (if r23 = true then (if x16j14 = x20j21 then (if x14j14 = x23j23 then (if (x15j14 == x24j23) = true then (if x18j14 = x21j21 then ((slices_Equal_api_Window_api_Window.f k x17j14 x25j25).bind fun r24 => (if r24 = true then ((pilelaw1_rated.f k ).bind fun r25 => Option.some r25) else Option.some false)) else Option.some false) else Option.some false) else Option.some false) else Option.some false) else Option.some false)) else Option.some false)
def pilelaw1_GoalsFollowed.j23 : Nat → Int → Int → List Int → List Int → List Int → Int → Int → Bool → Int → List (Int × Int) → Int → Int → Int → Int → List Int → Int → Bool → Option (Bool)
  | 0, _, _, _, _, _, _, _, _, _, _, _, _, _, _, _, _, _ => Option.none
  | k + 1, o5_0j6, o5_1j6, o31j6, o36j6, x12j14, x13j14, x14j14, x15j14, x16j14, x17j14, x18j14, x19j14, x20j21, x21j21, x22j21, x23j23, x24j23 => (if x21j21 = 0 then ((pileref1_AheadOf.f k o31j6 o36j6 o5_0j6 o5_1j6).bind fun r22 => pilelaw1_GoalsFollowed.j25 k x12j14 x13j14 x14j14 x15j14 x16j14 x17j14 x18j14 x19j14 x20j21 x21j21 x22j21 x23j23 x24j23 r22) else pilelaw1_GoalsFollowed.j25 k x12j14 x13j14 x14j14 x15j14 x16j14 x17j14 x18j14 x19j14 x20j21 x21j21 x22j21 x23j23 x24j23 ([] : List (Int × Int)))
def pilelaw1_GoalsFollowed.j21 : Nat → Int → Int → List Int → List Int → Int → Int → List Int → Int → Int → Bool → Int → List (Int × Int) → Int → Int → Int → Int → List Int → Option (Bool)
  | 0, _, _, _, _, _, _, _, _, _, _, _, _, _, _, _, _, _ => Option.none
  | k + 1, o5_0j6, o5_1j6, o31j6, o36j6, x9j14, x10j14, x12j14, x13j14, x14j14, x15j14, x16j14, x17j14, x18j14, x19j14, x20j21, x21j21, x22j21 => (if x20j21 = 0 then ((pileref1_ForecastOf.f k o31j6 o5_0j6 o5_1j6 x9j14 x10j14).bind fun r21 => pilelaw1_GoalsFollowed.j23 k o5_0j6 o5_1j6 o31j6 o36j6 x12j14 x13j14 x14j14 x15j14 x16j14 x17j14 x18j14 x19j14 x20j21 x21j21 x22j21 r21.1 r21.2) else pilelaw1_GoalsFollowed.j23 k o5_0j6 o5_1j6 o31j6 o36j6 x12j14 x13j14 x14j14 x15j14 x16j14 x17j14 x18j14 x19j14 x20j21 x21j21 x22j21 0 false)
def pilelaw1_GoalsFollowed.j14 : Nat → Int → Int → List Int → List Int → Int → Int → Int → Int → List Int → Int → Int → Bool → Int → List (Int × Int) → Int → Int → Option (Bool)
  | 0, _, _, _, _, _, _, _, _, _, _, _, _, _, _, _, _ => Option.none
  | k + 1, o5_0j6, o5_1j6, o31j6, o36j6, x8j14, x9j14, x10j14, x11j14, x12j14, x13j14, x14j14, x15j14, x16j14, x17j14, x18j14, x19j14 => ((pileref1_MomentFault.f x9j14).bind fun r15 => ((pileref1_LongFault.f x10j14).bind fun r16 => ((cmp_Or_api_Errno.f k [x11j14, r15, r16]).bind fun r17 => ((pileref1_TimesFault.f k o36j6 o5_0j6 o5_1j6).bind fun r18 => ((cmp_Or_api_Errno.f k [x11j14, r18]).bind fun r19 => (if x19j14 = 0 then ((pileref1_GoalOf.f k o31j6 o5_0j6 o5_1j6 x8j14).bind fun r20 => pilelaw1_GoalsFollowed.j21 k o5_0j6 o5_1j6 o31j6 o36j6 x9j14 x10j14 x12j14 x13j14 x14j14 x15j14 x16j14 x17j14 x18j14 x19j14 r17 r19 r20) else pilelaw1_GoalsFollowed.j21 k o5_0j6 o5_1j6 o31j6 o36j6 x9j14 x10j14 x12j14 x13j14 x14j14 x15j14 x16j14 x17j14 x18j14 x19j14 r17 r19 ([] : List Int)))))))
def pilelaw1_GoalsFollowed.j6 : Nat → Int → Int → List Int → Int → List Int → List Int → List Int → List Int → Option (Bool)
  | 0, _, _, _, _, _, _, _, _ => Option.none
  | k + 1, o5_0j6, o5_1j6, o28_0j6, o28_1j6, t31j6, o31j6, t36j6, o36j6 => ((pilemake_Stream_Pick.f k o28_0j6 o28_1j6 [0, 5, 10, 1000, (-1), 100000]).bind fun r5 => ((pilemake_Stream_Pick.f k r5.2.1 r5.2.2 [0, 61000, 3600000, 10000000, (-1)]).bind fun r6 => ((pilemake_Stream_Pick.f k r6.2.1 r6.2.2 [60000, 900000, 3600000, 0]).bind fun r7 => ((pileref1_TimesFault.f k o31j6 o5_0j6 o5_1j6).bind fun r8 => ((rate_Goal.f k o31j6 o5_0j6 o5_1j6 r5.1).bind fun r9 => ((rate_Forecast.f k o31j6 o5_0j6 o5_1j6 r6.1 r7.1).bind fun r10 => ((rate_Ahead.f k o31j6 o36j6 o5_0j6 o5_1j6).bind fun r11 => ((pileref1_SpanFault.f r5.1 0 99999).bind fun r12 => ((cmp_Or_api_Errno.f k [r8, r12]).bind fun r13 => (if r13 = 0 then ((pileref1_HoursFault.f o5_0j6 o5_1j6).bind fun r14 => pilelaw1_GoalsFollowed.j14 k o5_0j6 o5_1j6 o31j6 o36j6 r5.1 r6.1 r7.1 r8 r9.1 r9.2 r10.1 r10.2.1 r10.2.2 r11.1 r11.2 r14) else pilelaw1_GoalsFollowed.j14 k o5_0j6 o5_1j6 o31j6 o36j6 r5.1 r6.1 r7.1 r8 r9.1 r9.2 r10.1 r10.2.1 r10.2.2 r11.1 r11.2 r13))))))))))
end
def pilelaw1_GoalsFollowed.f (k : Nat) (l0 : List Int) : Option (Bool) := ((pilemake_Stream_TimesOf.f k l0 0).bind fun r1 => ((pilemake_Stream_TimesOf.f k r1.2.2.2.2.1 r1.2.2.2.2.2).bind fun r2 => ((pilemake_Stream_Flip.f k r2.2.2.2.2.1 r2.2.2.2.2.2 10).bind fun r3 => (if r3.1 = true then pilelaw1_GoalsFollowed.j6 k r1.2.2.1 r1.2.2.2.1 r3.2.1 r3.2.2 r1.2.1 r1.1 r2.2.1 r2.1 else ((slices_DeleteFunc_int_int_of_t_pilelaw1_GoalsFollowed_1.f k r2.1 r2.2.1 r1.2.2.1 r1.2.2.2.1).bind fun r4 => pilelaw1_GoalsFollowed.j6 k r1.2.2.1 r1.2.2.2.1 r3.2.1 r3.2.2 r1.2.1 r1.1 r4.2 r4.1)))))
theorem pilelaw1_GoalsFollowed.loops : ∀ k, (∀ (x12j14 : List Int) (x13j14 : Int) (x14j14 : Int) (x15j14 : Bool) (x16j14 : Int) (x17j14 : List (Int × Int)) (x18j14 : Int) (x19j14 : Int) (x20j21 : Int) (x21j21 : Int) (x22j21 : List Int) (x23j23 : Int) (x24j23 : Bool) (x25j25 : List (Int × Int)), RS (fam Try.f4 [6, 8, 10, 14, 21, 23, 25] [] [] (fun r : Bool => .bool r) (fun r => [])) (Func.reg Try.f4 25) ⟨ofT [(12, sq eI x12j14), (13, .int .i64 x13j14), (14, .int .i64 x14j14), (15, .bool x15j14), (16, .int .i64 x16j14), (17, sq e_II x17j14), (18, .int .i64 x18j14), (19, .int .i64 x19j14), (20, .int .i64 x20j21), (21, .int .i64 x21j21), (22, sq eI x22j21), (23, .int .i64 x23j23), (24, .bool x24j23), (25, sq e_II x25j25)], ofL []⟩ (pilelaw1_GoalsFollowed.j25 k x12j14 x13j14 x14j14 x15j14 x16j14 x17j14 x18j14 x19j14 x20j21 x21j21 x22j21 x23j23 x24j23 x25j25)) ∧ (∀ (o5_0j6 : Int) (o5_1j6 : Int) (o31j6 : List Int) (o36j6 : List Int) (x12j14 : List Int) (x13j14 : Int) (x14j14 : Int) (x15j14 : Bool) (x16j14 : Int) (x17j14 : List (Int × Int)) (x18j14 : Int) (x19j14 : Int) (x20j21 : Int) (x21j21 : Int) (x22j21 : List Int) (x23j23 : Int) (x24j23 : Bool), RS (fam Try.f4 [6, 8, 10, 14, 21, 23, 25] [] [] (fun r : Bool => .bool r) (fun r => [])) (Func.reg Try.f4 23) ⟨ofT [(4, sq eI o31j6), (5, .ref 5 0 0 0 2), (6, sq eI o36j6), (12, sq eI x12j14), (13, .int .i64 x13j14), (14, .int .i64 x14j14), (15, .bool x15j14), (16, .int .i64 x16j14), (17, sq e_II x17j14), (18, .int .i64 x18j14), (19, .int .i64 x19j14), (20, .int .i64 x20j21), (21, .int .i64 x21j21), (22, sq eI x22j21), (23, .int .i64 x23j23), (24, .bool x24j23), (25, .v (.slice Option.none 0 0))], ofL [(5, .box [.int .i64 o5_0j6, .int .i64 o5_1j6])]⟩ (pilelaw1_GoalsFollowed.j23 k o5_0j6 o5_1j6 o31j6 o36j6 x12j14 x13j14 x14j14 x15j14 x16j14 x17j14 x18j14 x19j14 x20j21 x21j21 x22j21 x23j23 x24j23)) ∧ (∀ (o5_0j6 : Int) (o5_1j6 : Int) (o31j6 : List Int) (o36j6 : List Int) (x9j14 : Int) (x10j14 : Int) (x12j14 : List Int) (x13j14 : Int) (x14j14 : Int) (x15j14 : Bool) (x16j14 : Int) (x17j14 : List (Int × Int)) (x18j14 : Int) (x19j14 : Int) (x20j21 : Int) (x21j21 : Int) (x22j21 : List Int), RS (fam Try.f4 [6, 8, 10, 14, 21, 23, 25] [] [] (fun r : Bool => .bool r) (fun r => [])) (Func.reg Try.f4 21) ⟨ofT [(4, sq eI o31j6), (5, .ref 5 0 0 0 2), (6, sq eI o36j6), (9, .int .i64 x9j14), (10, .int .i64 x10j14), (12, sq eI x12j14), (13, .int .i64 x13j14), (14, .int .i64 x14j14), (15, .bool x15j14), (16, .int .i64 x16j14), (17, sq e_II x17j14), (18, .int .i64 x18j14), (19, .int .i64 x19j14), (20, .int .i64 x20j21), (21, .int .i64 x21j21), (22, sq eI x22j21), (23, .int .i64 0), (24, .bool false), (25, .v (.slice Option.none 0 0))], ofL [(5, .box [.int .i64 o5_0j6, .int .i64 o5_1j6])]⟩ (pilelaw1_GoalsFollowed.j21 k o5_0j6 o5_1j6 o31j6 o36j6 x9j14 x10j14 x12j14 x13j14 x14j14 x15j14 x16j14 x17j14 x18j14 x19j14 x20j21 x21j21 x22j21)) ∧ (∀ (o5_0j6 : Int) (o5_1j6 : Int) (o31j6 : List Int) (o36j6 : List Int) (x8j14 : Int) (x9j14 : Int) (x10j14 : Int) (x11j14 : Int) (x12j14 : List Int) (x13j14 : Int) (x14j14 : Int) (x15j14 : Bool) (x16j14 : Int) (x17j14 : List (Int × Int)) (x18j14 : Int) (x19j14 : Int), RS (fam Try.f4 [6, 8, 10, 14, 21, 23, 25] [] [] (fun r : Bool => .bool r) (fun r => [])) (Func.reg Try.f4 14) ⟨ofT [(4, sq eI o31j6), (5, .ref 5 0 0 0 2), (6, sq eI o36j6), (8, .int .i64 x8j14), (9, .int .i64 x9j14), (10, .int .i64 x10j14), (11, .int .i64 x11j14), (12, sq eI x12j14), (13, .int .i64 x13j14), (14, .int .i64 x14j14), (15, .bool x15j14), (16, .int .i64 x16j14), (17, sq e_II x17j14), (18, .int .i64 x18j14), (19, .int .i64 x19j14)], ofL [(5, .box [.int .i64 o5_0j6, .int .i64 o5_1j6])]⟩ (pilelaw1_GoalsFollowed.j14 k o5_0j6 o5_1j6 o31j6 o36j6 x8j14 x9j14 x10j14 x11j14 x12j14 x13j14 x14j14 x15j14 x16j14 x17j14 x18j14 x19j14)) ∧ (∀ (o5_0j6 : Int) (o5_1j6 : Int) (o28_0j6 : List Int) (o28_1j6 : Int) (t31j6 : List Int) (o31j6 : List Int) (t36j6 : List Int) (o36j6 : List Int), RS (fam Try.f4 [6, 8, 10, 14, 21, 23, 25] [] [] (fun r : Bool => .bool r) (fun r => [])) (Func.reg Try.f4 6) ⟨ofT [(3, .ref 28 0 0 0 2), (4, .osl 31 eI.w 0 o31j6.length (o31j6 ++ t31j6).length), (5, .ref 5 0 0 0 2), (6, .osl 36 eI.w 0 o36j6.length (o36j6 ++ t36j6).length)], ofL [(5, .box [.int .i64 o5_0j6, .int .i64 o5_1j6]), (28, .box [sq eI o28_0j6, .int .i64 o28_1j6]), (31, bufE eI (o31j6 ++ t31j6)), (36, bufE eI (o36j6 ++ t36j6))]⟩ (pilelaw1_GoalsFollowed.j6 k o5_0j6 o5_1j6 o28_0j6 o28_1j6 t31j6 o31j6 t36j6 o36j6))
  | 0 => ⟨by intro _ _ _ _ _ _ _ _ _ _ _ _ _ _; simp only [pilelaw1_GoalsFollowed.j25]; exact RS.none, by intro _ _ _ _ _ _ _ _ _ _ _ _ _ _ _ _ _; simp only [pilelaw1_GoalsFollowed.j23]; exact RS.none, by intro _ _ _ _ _ _ _ _ _ _ _ _ _ _ _ _ _; simp only [pilelaw1_GoalsFollowed.j21]; exact RS.none, by intro _ _ _ _ _ _ _ _ _ _ _ _ _ _ _ _; simp only [pilelaw1_GoalsFollowed.j14]; exact RS.none, by intro _ _ _ _ _ _ _ _; simp only [pilelaw1_GoalsFollowed.j6]; exact RS.none⟩
  | k + 1 => by
    have ih := pilelaw1_GoalsFollowed.loops k
    refine ⟨?_, ?_, ?_, ?_, ?_⟩
    · intro x12j14 x13j14 x14j14 x15j14 x16j14 x17j14 x18j14 x19j14 x20j21 x21j21 x22j21 x23j23 x24j23 x25j25
      simp only [pilelaw1_GoalsFollowed.j25]
      refine RS.region ?_
      refine RS.go ?_
      refine RT.br rfl (fun c32 => ?_) (fun c32 => ?_)
      · refine RT.brT rfl ?_
        refine RT.brT rfl ?_
        refine RT.call0 rfl (fun _ h => slices_Equal_int_int.ok k x12j14 x22j21 _ h) (LeL.eq rfl) (fun _ => rfl) (fun r23 => ?_)
        refine RS.go ?_
        refine RT.brT rfl ?_
        refine RT.brB rfl (fun c31 => ?_) (fun c31 => ?_)
        · refine RT.brT rfl ?_
          refine RT.brT rfl ?_
          refine RT.brT rfl ?_
          refine RT.br rfl (fun c30 => ?_) (fun c30 => ?_)
          · refine RT.brT rfl ?_
            refine RT.brT rfl ?_
            refine RT.brT rfl ?_
            refine RT.br rfl (fun c29 => ?_) (fun c29 => ?_)
            · refine RT.brT rfl ?_
              refine RT.brT rfl ?_
              refine RT.brT rfl ?_
              refine RT.brB rfl (fun c28 => ?_) (fun c28 => ?_)
              · refine RT.brT rfl ?_
                refine RT.brT rfl ?_
                refine RT.brT rfl ?_
                refine RT.br rfl (fun c27 => ?_) (fun c27 => ?_)
                · refine RT.brT rfl ?_
                  refine RT.brT rfl ?_
                  refine RT.call0 rfl (fun _ h => slices_Equal_api_Window_api_Window.ok k x17j14 x25j25 _ h) (LeL.eq rfl) (fun _ => rfl) (fun r24 => ?_)
                  refine RS.go ?_
                  refine RT.brT rfl ?_
                  refine RT.brB rfl (fun c26 => ?_) (fun c26 => ?_)
                  · refine RT.call0 rfl (fun _ h => pilelaw1_rated.ok k  _ h) (LeL.eq rfl) (fun _ => rfl) (fun r25 => ?_)
                    refine RS.go ?_
                    refine RT.brT rfl ?_
                    exact RT.done rfl rfl (Le.refl _) trivial rfl (dom0 rfl)
                  · refine RT.brF rfl ?_
                    exact RT.done rfl rfl (Le.refl _) trivial rfl (dom0 rfl)
                · refine RT.brF rfl ?_
                  refine RT.brF rfl ?_
                  refine RT.brF rfl ?_
                  refine RT.brF rfl ?_
                  refine RT.brF rfl ?_
                  exact RT.done rfl rfl (Le.refl _) trivial rfl (dom0 rfl)
              · refine RT.brF rfl ?_
                refine RT.brF rfl ?_
                refine RT.brF rfl ?_
                refine RT.brF rfl ?_
                refine RT.brF rfl ?_
                refine RT.brF rfl ?_
                refine RT.brF rfl ?_
                refine RT.brF rfl ?_
                refine RT.brF rfl ?_
                exact RT.done rfl rfl (Le.refl _) trivial rfl (dom0 rfl)
            · refine RT.brF rfl ?_
              refine RT.brF rfl ?_
              refine RT.brF rfl ?_
              refine RT.brF rfl ?_
              refine RT.brF rfl ?_
              refine RT.brF rfl ?_
              refine RT.brF rfl ?_
              refine RT.brF rfl ?_
              refine RT.brF rfl ?_
              refine RT.brF rfl ?_
              refine RT.brF rfl ?_
              refine RT.brF rfl ?_
              refine RT.brF rfl ?_
              exact RT.done rfl rfl (Le.refl _) trivial rfl (dom0 rfl)
          · refine RT.brF rfl ?_
            refine RT.brF rfl ?_
            refine RT.brF rfl ?_
            refine RT.brF rfl ?_
            refine RT.brF rfl ?_
            refine RT.brF rfl ?_
            refine RT.brF rfl ?_
            refine RT.brF rfl ?_
            refine RT.brF rfl ?_
            refine RT.brF rfl ?_
            refine RT.brF rfl ?_
            refine RT.brF rfl ?_
            refine RT.brF rfl ?_
            refine RT.brF rfl ?_
            refine RT.brF rfl ?_
            refine RT.brF rfl ?_
            refine RT.brF rfl ?_
            exact RT.done rfl rfl (Le.refl _) trivial rfl (dom0 rfl)
        · refine RT.brF rfl ?_
          refine RT.brF rfl ?_
          refine RT.brF rfl ?_
          refine RT.brF rfl ?_
          refine RT.brF rfl ?_
          refine RT.brF rfl ?_
          refine RT.brF rfl ?_
          refine RT.brF rfl ?_
          refine RT.brF rfl ?_
          refine RT.brF rfl ?_
          refine RT.brF rfl ?_
          refine RT.brF rfl ?_
          refine RT.brF rfl ?_
          refine RT.brF rfl ?_
          refine RT.brF rfl ?_
          refine RT.brF rfl ?_
          refine RT.brF rfl ?_
          refine RT.brF rfl ?_
          refine RT.brF rfl ?_
          refine RT.brF rfl ?_
          refine RT.brF rfl ?_
          exact RT.done rfl rfl (Le.refl _) trivial rfl (dom0 rfl)
      · refine RT.brF rfl ?_
        refine RT.brF rfl ?_
        refine RT.brF rfl ?_
        refine RT.brF rfl ?_
        refine RT.brF rfl ?_
        refine RT.brF rfl ?_
        refine RT.brF rfl ?_
        refine RT.brF rfl ?_
        refine RT.brF rfl ?_
        refine RT.brF rfl ?_
        refine RT.brF rfl ?_
        refine RT.brF rfl ?_
        refine RT.brF rfl ?_
        refine RT.brF rfl ?_
        refine RT.brF rfl ?_
        refine RT.brF rfl ?_
        refine RT.brF rfl ?_
        refine RT.brF rfl ?_
        refine RT.brF rfl ?_
        refine RT.brF rfl ?_
        refine RT.brF rfl ?_
        refine RT.brF rfl ?_
        refine RT.brF rfl ?_
        refine RT.brF rfl ?_
        refine RT.brF rfl ?_
        exact RT.done rfl rfl (Le.refl _) trivial rfl (dom0 rfl)
    · intro o5_0j6 o5_1j6 o31j6 o36j6 x12j14 x13j14 x14j14 x15j14 x16j14 x17j14 x18j14 x19j14 x20j21 x21j21 x22j21 x23j23 x24j23
      simp only [pilelaw1_GoalsFollowed.j23]
      refine RS.region ?_
      refine RS.go ?_
      refine RT.br rfl (fun c33 => ?_) (fun c33 => ?_)
      · refine RT.call0 rfl (fun _ h => pileref1_AheadOf.ok k o31j6 o36j6 o5_0j6 o5_1j6 _ h) (LeL.eq rfl) (fun _ => rfl) (fun r22 => ?_)
        refine RS.go ?_
        refine RT.goto rfl ?_
        refine RS.weak [(12, sq eI x12j14), (13, .int .i64 x13j14), (14, .int .i64 x14j14), (15, .bool x15j14), (16, .int .i64 x16j14), (17, sq e_II x17j14), (18, .int .i64 x18j14), (19, .int .i64 x19j14), (20, .int .i64 x20j21), (21, .int .i64 x21j21), (22, sq eI x22j21), (23, .int .i64 x23j23), (24, .bool x24j23), (25, sq e_II r22)] [] ⟨Le.eq (by first | rfl | simp), Le.eq (by first | rfl | simp), Le.eq (by first | rfl | simp), Le.eq (by first | rfl | simp), Le.eq (by first | rfl | simp), Le.eq (by first | rfl | simp), Le.eq (by first | rfl | simp), Le.eq (by first | rfl | simp), Le.eq (by first | rfl | simp), Le.eq (by first | rfl | simp), Le.eq (by first | rfl | simp), Le.eq (by first | rfl | simp), Le.eq (by first | rfl | simp), Le.eq (by first | rfl | simp), trivial⟩ trivial rfl (dom0 rfl) ?_
        exact ih.1 x12j14 x13j14 x14j14 x15j14 x16j14 x17j14 x18j14 x19j14 x20j21 x21j21 x22j21 x23j23 x24j23 r22 
      · refine RT.goto rfl ?_
        refine RS.slot 25 (sq e_II ([] : List (Int × Int))) (Le.nil _ _) ?_
        refine RS.weak [(12, sq eI x12j14), (13, .int .i64 x13j14), (14, .int .i64 x14j14), (15, .bool x15j14), (16, .int .i64 x16j14), (17, sq e_II x17j14), (18, .int .i64 x18j14), (19, .int .i64 x19j14), (20, .int .i64 x20j21), (21, .int .i64 x21j21), (22, sq eI x22j21), (23, .int .i64 x23j23), (24, .bool x24j23), (25, sq e_II ([] : List (Int × Int)))] [] ⟨Le.eq (by first | rfl | simp), Le.eq (by first | rfl | simp), Le.eq (by first | rfl | simp), Le.eq (by first | rfl | simp), Le.eq (by first | rfl | simp), Le.eq (by first | rfl | simp), Le.eq (by first | rfl | simp), Le.eq (by first | rfl | simp), Le.eq (by first | rfl | simp), Le.eq (by first | rfl | simp), Le.eq (by first | rfl | simp), Le.eq (by first | rfl | simp), Le.eq (by first | rfl | simp), Le.eq (by first | rfl | simp), trivial⟩ trivial rfl (dom0 rfl) ?_
        exact ih.1 x12j14 x13j14 x14j14 x15j14 x16j14 x17j14 x18j14 x19j14 x20j21 x21j21 x22j21 x23j23 x24j23 ([] : List (Int × Int)) 
    · intro o5_0j6 o5_1j6 o31j6 o36j6 x9j14 x10j14 x12j14 x13j14 x14j14 x15j14 x16j14 x17j14 x18j14 x19j14 x20j21 x21j21 x22j21
      simp only [pilelaw1_GoalsFollowed.j21]
      refine RS.region ?_
      refine RS.go ?_
      refine RT.br rfl (fun c34 => ?_) (fun c34 => ?_)
      · refine RT.call0 rfl (fun _ h => pileref1_ForecastOf.ok k o31j6 o5_0j6 o5_1j6 x9j14 x10j14 _ h) (LeL.eq rfl) (fun _ => rfl) (fun r21 => ?_)
        refine RS.go ?_
        refine RT.goto rfl ?_
        refine RS.weak [(4, sq eI o31j6), (5, .ref 5 0 0 0 2), (6, sq eI o36j6), (12, sq eI x12j14), (13, .int .i64 x13j14), (14, .int .i64 x14j14), (15, .bool x15j14), (16, .int .i64 x16j14), (17, sq e_II x17j14), (18, .int .i64 x18j14), (19, .int .i64 x19j14), (20, .int .i64 x20j21), (21, .int .i64 x21j21), (22, sq eI x22j21), (23, .int .i64 r21.1), (24, .bool r21.2), (25, .v (.slice Option.none 0 0))] [(5, .box [.int .i64 o5_0j6, .int .i64 o5_1j6])] ⟨Le.eq (by first | rfl | simp), Le.eq (by first | rfl | simp), Le.eq (by first | rfl | simp), Le.eq (by first | rfl | simp), Le.eq (by first | rfl | simp), Le.eq (by first | rfl | simp), Le.eq (by first | rfl | simp), Le.eq (by first | rfl | simp), Le.eq (by first | rfl | simp), Le.eq (by first | rfl | simp), Le.eq (by first | rfl | simp), Le.eq (by first | rfl | simp), Le.eq (by first | rfl | simp), Le.eq (by first | rfl | simp), Le.eq (by first | rfl | simp), Le.eq (by first | rfl | simp), Le.eq (by first | rfl | simp), trivial⟩ ⟨⟨_, rfl, LeO.refl _⟩, trivial⟩ rfl (dom0 rfl) ?_
        exact ih.2.1 o5_0j6 o5_1j6 o31j6 o36j6 x12j14 x13j14 x14j14 x15j14 x16j14 x17j14 x18j14 x19j14 x20j21 x21j21 x22j21 r21.1 r21.2 
      · refine RT.goto rfl ?_
        refine RS.weak [(4, sq eI o31j6), (5, .ref 5 0 0 0 2), (6, sq eI o36j6), (12, sq eI x12j14), (13, .int .i64 x13j14), (14, .int .i64 x14j14), (15, .bool x15j14), (16, .int .i64 x16j14), (17, sq e_II x17j14), (18, .int .i64 x18j14), (19, .int .i64 x19j14), (20, .int .i64 x20j21), (21, .int .i64 x21j21), (22, sq eI x22j21), (23, .int .i64 0), (24, .bool false), (25, .v (.slice Option.none 0 0))] [(5, .box [.int .i64 o5_0j6, .int .i64 o5_1j6])] ⟨Le.eq (by first | rfl | simp), Le.eq (by first | rfl | simp), Le.eq (by first | rfl | simp), Le.eq (by first | rfl | simp), Le.eq (by first | rfl | simp), Le.eq (by first | rfl | simp), Le.eq (by first | rfl | simp), Le.eq (by first | rfl | simp), Le.eq (by first | rfl | simp), Le.eq (by first | rfl | simp), Le.eq (by first | rfl | simp), Le.eq (by first | rfl | simp), Le.eq (by first | rfl | simp), Le.eq (by first | rfl | simp), Le.eq (by first | rfl | simp), Le.eq (by first | rfl | simp), Le.eq (by first | rfl | simp), trivial⟩ ⟨⟨_, rfl, LeO.refl _⟩, trivial⟩ rfl (dom0 rfl) ?_
        exact ih.2.1 o5_0j6 o5_1j6 o31j6 o36j6 x12j14 x13j14 x14j14 x15j14 x16j14 x17j14 x18j14 x19j14 x20j21 x21j21 x22j21 0 false 
    · intro o5_0j6 o5_1j6 o31j6 o36j6 x8j14 x9j14 x10j14 x11j14 x12j14 x13j14 x14j14 x15j14 x16j14 x17j14 x18j14 x19j14
      simp only [pilelaw1_GoalsFollowed.j14]
      refine RS.region ?_
      refine RS.go ?_
      refine RT.call0 rfl (fun _ h => pileref1_MomentFault.ok x9j14 _ h) (LeL.eq rfl) (fun _ => rfl) (fun r15 => ?_)
      refine RS.go ?_
      refine RT.call0 rfl (fun _ h => pileref1_LongFault.ok x10j14 _ h) (LeL.eq rfl) (fun _ => rfl) (fun r16 => ?_)
      refine RS.go ?_
      refine RT.goto rfl ?_
      refine RS.slot 94 (sq eI [x11j14, r15, r16]) (Le.lit (E := eI) (l := [x11j14, r15, r16]) (cells_of rfl)) ?_
      refine RS.go ?_
      refine RT.call0 rfl (fun _ h => cmp_Or_api_Errno.ok k [x11j14, r15, r16] _ h) (LeL.eq rfl) (fun _ => rfl) (fun r17 => ?_)
      refine RS.go ?_
      refine RT.call0 rfl (fun _ h => pileref1_TimesFault.ok k o36j6 o5_0j6 o5_1j6 _ h) (LeL.eq rfl) (fun _ => rfl) (fun r18 => ?_)
      refine RS.go ?_
      refine RT.goto rfl ?_
      refine RS.slot 100 (sq eI [x11j14, r18]) (Le.lit (E := eI) (l := [x11j14, r18]) (cells_of rfl)) ?_
      refine RS.go ?_
      refine RT.call0 rfl (fun _ h => cmp_Or_api_Errno.ok k [x11j14, r18] _ h) (LeL.eq rfl) (fun _ => rfl) (fun r19 => ?_)
      refine RS.go ?_
      refine RT.br rfl (fun c35 => ?_) (fun c35 => ?_)
      · refine RT.call0 rfl (fun _ h => pileref1_GoalOf.ok k o31j6 o5_0j6 o5_1j6 x8j14 _ h) (LeL.eq rfl) (fun _ => rfl) (fun r20 => ?_)
        refine RS.go ?_
        refine RT.goto rfl ?_
        refine RS.weak [(4, sq eI o31j6), (5, .ref 5 0 0 0 2), (6, sq eI o36j6), (9, .int .i64 x9j14), (10, .int .i64 x10j14), (12, sq eI x12j14), (13, .int .i64 x13j14), (14, .int .i64 x14j14), (15, .bool x15j14), (16, .int .i64 x16j14), (17, sq e_II x17j14), (18, .int .i64 x18j14), (19, .int .i64 x19j14), (20, .int .i64 r17), (21, .int .i64 r19), (22, sq eI r20), (23, .int .i64 0), (24, .bool false), (25, .v (.slice Option.none 0 0))] [(5, .box [.int .i64 o5_0j6, .int .i64 o5_1j6])] ⟨Le.eq (by first | rfl | simp), Le.eq (by first | rfl | simp), Le.eq (by first | rfl | simp), Le.eq (by first | rfl | simp), Le.eq (by first | rfl | simp), Le.eq (by first | rfl | simp), Le.eq (by first | rfl | simp), Le.eq (by first | rfl | simp), Le.eq (by first | rfl | simp), Le.eq (by first | rfl | simp), Le.eq (by first | rfl | simp), Le.eq (by first | rfl | simp), Le.eq (by first | rfl | simp), Le.eq (by first | rfl | simp), Le.eq (by first | rfl | simp), Le.eq (by first | rfl | simp), Le.eq (by first | rfl | simp), Le.eq (by first | rfl | simp), Le.eq (by first | rfl | simp), trivial⟩ ⟨⟨_, rfl, LeO.refl _⟩, trivial⟩ rfl (dom0 rfl) ?_
        exact ih.2.2.1 o5_0j6 o5_1j6 o31j6 o36j6 x9j14 x10j14 x12j14 x13j14 x14j14 x15j14 x16j14 x17j14 x18j14 x19j14 r17 r19 r20 
      · refine RT.goto rfl ?_
        refine RS.slot 22 (sq eI ([] : List Int)) (Le.nil _ _) ?_
        refine RS.weak [(4, sq eI o31j6), (5, .ref 5 0 0 0 2), (6, sq eI o36j6), (9, .int .i64 x9j14), (10, .int .i64 x10j14), (12, sq eI x12j14), (13, .int .i64 x13j14), (14, .int .i64 x14j14), (15, .bool x15j14), (16, .int .i64 x16j14), (17, sq e_II x17j14), (18, .int .i64 x18j14), (19, .int .i64 x19j14), (20, .int .i64 r17), (21, .int .i64 r19), (22, sq eI ([] : List Int)), (23, .int .i64 0), (24, .bool false), (25, .v (.slice Option.none 0 0))] [(5, .box [.int .i64 o5_0j6, .int .i64 o5_1j6])] ⟨Le.eq (by first | rfl | simp), Le.eq (by first | rfl | simp), Le.eq (by first | rfl | simp), Le.eq (by first | rfl | simp), Le.eq (by first | rfl | simp), Le.eq (by first | rfl | simp), Le.eq (by first | rfl | simp), Le.eq (by first | rfl | simp), Le.eq (by first | rfl | simp), Le.eq (by first | rfl | simp), Le.eq (by first | rfl | simp), Le.eq (by first | rfl | simp), Le.eq (by first | rfl | simp), Le.eq (by first | rfl | simp), Le.eq (by first | rfl | simp), Le.eq (by first | rfl | simp), Le.eq (by first | rfl | simp), Le.eq (by first | rfl | simp), Le.eq (by first | rfl | simp), trivial⟩ ⟨⟨_, rfl, LeO.refl _⟩, trivial⟩ rfl (dom0 rfl) ?_
        exact ih.2.2.1 o5_0j6 o5_1j6 o31j6 o36j6 x9j14 x10j14 x12j14 x13j14 x14j14 x15j14 x16j14 x17j14 x18j14 x19j14 r17 r19 ([] : List Int) 
    · intro o5_0j6 o5_1j6 o28_0j6 o28_1j6 t31j6 o31j6 t36j6 o36j6
      simp only [pilelaw1_GoalsFollowed.j6]
      refine RS.region ?_
      refine RS.go ?_
      refine RT.goto rfl ?_
      refine RS.slot 46 (sq eI [0, 5, 10, 1000, (-1), 100000]) (Le.lit (E := eI) (l := [0, 5, 10, 1000, (-1), 100000]) (cells_of rfl)) ?_
      refine RS.go ?_
      refine RT.call rfl (fun _ h => pilemake_Stream_Pick.ok k o28_0j6 o28_1j6 [0, 5, 10, 1000, (-1), 100000] _ h) (fun i => bif Nat.beq i 100000 then 28 else i) (LeL.eq rfl) ⟨⟨_, rfl, LeO.refl _⟩, trivial⟩ (fun _ => rfl) (fun r5 => ?_)
      refine RS.go ?_
      refine RT.goto rfl ?_
      refine RS.slot 49 (sq eI [0, 61000, 3600000, 10000000, (-1)]) (Le.lit (E := eI) (l := [0, 61000, 3600000, 10000000, (-1)]) (cells_of rfl)) ?_
      refine RS.go ?_
      refine RT.call rfl (fun _ h => pilemake_Stream_Pick.ok k r5.2.1 r5.2.2 [0, 61000, 3600000, 10000000, (-1)] _ h) (fun i => bif Nat.beq i 100000 then 28 else i) (LeL.eq rfl) ⟨⟨_, rfl, LeO.refl _⟩, trivial⟩ (fun _ => rfl) (fun r6 => ?_)
      refine RS.go ?_
      refine RT.goto rfl ?_
      refine RS.slot 52 (sq eI [60000, 900000, 3600000, 0]) (Le.lit (E := eI) (l := [60000, 900000, 3600000, 0]) (cells_of rfl)) ?_
      refine RS.go ?_
      refine RT.call rfl (fun _ h => pilemake_Stream_Pick.ok k r6.2.1 r6.2.2 [60000, 900000, 3600000, 0] _ h) (fun i => bif Nat.beq i 100000 then 28 else i) (LeL.eq rfl) ⟨⟨_, rfl, LeO.refl _⟩, trivial⟩ (fun _ => rfl) (fun r7 => ?_)
      refine RS.go ?_
      refine RT.callRO 31 rfl (fun _ h => pileref1_TimesFault.ok k o31j6 o5_0j6 o5_1j6 _ h) rfl ⟨.inr ⟨_, rfl, by simp, Le.pre⟩, ⟨.inl ⟨(Le.refl _), rfl⟩, trivial⟩⟩ rfl (fun _ => ⟨_, rfl⟩) (fun r8 => ?_)
      refine RS.go ?_
      refine RT.goto rfl ?_
      refine RS.freeze 31 _ _ _ [(4, .sl o31j6.length eI.w (rep eI (o31j6 ++ t31j6))), (5, .ref 5 0 0 0 2), (6, .osl 36 eI.w 0 o36j6.length (o36j6 ++ t36j6).length), (8, .int .i64 r5.1), (9, .int .i64 r6.1), (10, .int .i64 r7.1), (11, .int .i64 r8)] [(5, .box [.int .i64 o5_0j6, .int .i64 o5_1j6]), (36, bufE eI (o36j6 ++ t36j6))] rfl ⟨.inr ⟨_, rfl, by first | exact Nat.le_refl _ | simp, rfl⟩, .inl (Le.refl _), .inl (Le.refl _), .inl (Le.refl _), .inl (Le.refl _), .inl (Le.refl _), .inl (Le.refl _), trivial⟩ ⟨⟨_, rfl, LeO.refl _⟩, ⟨_, rfl, LeO.refl _⟩, trivial⟩ rfl (dom0 rfl) ?_
      refine RS.slot 4 (sq eI o31j6) Le.pre ?_
      refine RS.region ?_
      refine RS.go ?_
      refine RT.call0 rfl (fun _ h => rate_Goal.ok k o31j6 o5_0j6 o5_1j6 r5.1 _ h) (LeL.eq rfl) (fun _ => rfl) (fun r9 => ?_)
      refine RS.go ?_
      refine RT.call0 rfl (fun _ h => rate_Forecast.ok k o31j6 o5_0j6 o5_1j6 r6.1 r7.1 _ h) (LeL.eq rfl) (fun _ => rfl) (fun r10 => ?_)
      refine RS.go ?_
      refine RT.goto rfl ?_
      refine RS.freeze 36 _ _ _ [(4, sq eI o31j6), (5, .ref 5 0 0 0 2), (6, .sl o36j6.length eI.w (rep eI (o36j6 ++ t36j6))), (8, .int .i64 r5.1), (9, .int .i64 r6.1), (10, .int .i64 r7.1), (11, .int .i64 r8), (12, sq eI r9.1), (13, .int .i64 r9.2), (14, .int .i64 r10.1), (15, .bool r10.2.1), (16, .int .i64 r10.2.2)] [(5, .box [.int .i64 o5_0j6, .int .i64 o5_1j6])] rfl ⟨.inl (Le.refl _), .inl (Le.refl _), .inr ⟨_, rfl, by first | exact Nat.le_refl _ | simp, rfl⟩, .inl (Le.refl _), .inl (Le.refl _), .inl (Le.refl _), .inl (Le.refl _), .inl (Le.refl _), .inl (Le.refl _), .inl (Le.refl _), .inl (Le.refl _), .inl (Le.refl _), trivial⟩ ⟨⟨_, rfl, LeO.refl _⟩, trivial⟩ rfl (dom0 rfl) ?_
      refine RS.slot 6 (sq eI o36j6) Le.pre ?_
      refine RS.region ?_
      refine RS.go ?_
      refine RT.call0 rfl (fun _ h => rate_Ahead.ok k o31j6 o36j6 o5_0j6 o5_1j6 _ h) (LeL.eq rfl) (fun _ => rfl) (fun r11 => ?_)
      refine RS.go ?_
      refine RT.call0 rfl (fun _ h => pileref1_SpanFault.ok r5.1 0 99999 _ h) (LeL.eq rfl) (fun _ => rfl) (fun r12 => ?_)
      refine RS.go ?_
      refine RT.goto rfl ?_
      refine RS.slot 83 (sq eI [r8, r12]) (Le.lit (E := eI) (l := [r8, r12]) (cells_of rfl)) ?_
      refine RS.go ?_
      refine RT.call0 rfl (fun _ h => cmp_Or_api_Errno.ok k [r8, r12] _ h) (LeL.eq rfl) (fun _ => rfl) (fun r13 => ?_)
      refine RS.go ?_
      refine RT.br rfl (fun c36 => ?_) (fun c36 => ?_)
      · refine RT.call0 rfl (fun _ h => pileref1_HoursFault.ok o5_0j6 o5_1j6 _ h) (LeL.eq rfl) (fun _ => rfl) (fun r14 => ?_)
        refine RS.go ?_
        refine RT.goto rfl ?_
        refine RS.weak [(4, sq eI o31j6), (5, .ref 5 0 0 0 2), (6, sq eI o36j6), (8, .int .i64 r5.1), (9, .int .i64 r6.1), (10, .int .i64 r7.1), (11, .int .i64 r8), (12, sq eI r9.1), (13, .int .i64 r9.2), (14, .int .i64 r10.1), (15, .bool r10.2.1), (16, .int .i64 r10.2.2), (17, sq e_II r11.1), (18, .int .i64 r11.2), (19, .int .i64 r14)] [(5, .box [.int .i64 o5_0j6, .int .i64 o5_1j6])] ⟨Le.eq (by first | rfl | simp), Le.eq (by first | rfl | simp), Le.eq (by first | rfl | simp), Le.eq (by first | rfl | simp), Le.eq (by first | rfl | simp), Le.eq (by first | rfl | simp), Le.eq (by first | rfl | simp), Le.eq (by first | rfl | simp), Le.eq (by first | rfl | simp), Le.eq (by first | rfl | simp), Le.eq (by first | rfl | simp), Le.eq (by first | rfl | simp), Le.eq (by first | rfl | simp), Le.eq (by first | rfl | simp), Le.eq (by first | rfl | simp), trivial⟩ ⟨⟨_, rfl, LeO.refl _⟩, trivial⟩ rfl (dom0 rfl) ?_
        exact ih.2.2.2.1 o5_0j6 o5_1j6 o31j6 o36j6 r5.1 r6.1 r7.1 r8 r9.1 r9.2 r10.1 r10.2.1 r10.2.2 r11.1 r11.2 r14 
      · refine RT.goto rfl ?_
        refine RS.weak [(4, sq eI o31j6), (5, .ref 5 0 0 0 2), (6, sq eI o36j6), (8, .int .i64 r5.1), (9, .int .i64 r6.1), (10, .int .i64 r7.1), (11, .int .i64 r8), (12, sq eI r9.1), (13, .int .i64 r9.2), (14, .int .i64 r10.1), (15, .bool r10.2.1), (16, .int .i64 r10.2.2), (17, sq e_II r11.1), (18, .int .i64 r11.2), (19, .int .i64 r13)] [(5, .box [.int .i64 o5_0j6, .int .i64 o5_1j6])] ⟨Le.eq (by first | rfl | simp), Le.eq (by first | rfl | simp), Le.eq (by first | rfl | simp), Le.eq (by first | rfl | simp), Le.eq (by first | rfl | simp), Le.eq (by first | rfl | simp), Le.eq (by first | rfl | simp), Le.eq (by first | rfl | simp), Le.eq (by first | rfl | simp), Le.eq (by first | rfl | simp), Le.eq (by first | rfl | simp), Le.eq (by first | rfl | simp), Le.eq (by first | rfl | simp), Le.eq (by first | rfl | simp), Le.eq (by first | rfl | simp), trivial⟩ ⟨⟨_, rfl, LeO.refl _⟩, trivial⟩ rfl (dom0 rfl) ?_
        exact ih.2.2.2.1 o5_0j6 o5_1j6 o31j6 o36j6 r5.1 r6.1 r7.1 r8 r9.1 r9.2 r10.1 r10.2.1 r10.2.2 r11.1 r11.2 r13 
theorem pilelaw1_GoalsFollowed.ok (k : Nat) (l0 : List Int) (r : Bool) (h : pilelaw1_GoalsFollowed.f k l0 = some r) : Ct Try.prog B 4 [sq eI l0] (ofL []) (.bool r) (ofL []) := by
  refine Ct.of (Y := (fam Try.f4 [6, 8, 10, 14, 21, 23, 25] [] [] (fun r : Bool => .bool r) (fun r => []))) Try.func4 rfl Try.call4 rfl rfl ?_ r h
  unfold pilelaw1_GoalsFollowed.f
  refine RS.go ?_
  refine RT.call rfl (fun _ h => pilemake_Stream_TimesOf.ok k l0 0 _ h) (fun i => bif Nat.beq i 5 then 31 else bif Nat.beq i 100000 then 28 else i) (LeL.eq rfl) ⟨⟨_, rfl, LeO.refl _⟩, trivial⟩ (fun _ => rfl) (fun r1 => ?_)
  refine RS.go ?_
  refine RT.call rfl (fun _ h => pilemake_Stream_TimesOf.ok k r1.2.2.2.2.1 r1.2.2.2.2.2 _ h) (fun i => bif Nat.beq i 5 then 36 else bif Nat.beq i 100000 then 28 else i) (LeL.eq rfl) ⟨⟨_, rfl, LeO.refl _⟩, trivial⟩ (fun _ => rfl) (fun r2 => ?_)
  refine RS.go ?_
  refine RT.call rfl (fun _ h => pilemake_Stream_Flip.ok k r2.2.2.2.2.1 r2.2.2.2.2.2 10 _ h) (fun i => bif Nat.beq i 100000 then 28 else i) (LeL.eq rfl) ⟨⟨_, rfl, LeO.refl _⟩, trivial⟩ (fun _ => rfl) (fun r3 => ?_)
  refine RS.go ?_
  refine RT.brBN rfl (fun c37 => ?_) (fun c37 => ?_)
  · refine RT.goto rfl ?_
    refine RS.weak [(3, .ref 28 0 0 0 2), (4, .osl 31 eI.w 0 r1.1.length (r1.1 ++ r1.2.1).length), (5, .ref 5 0 0 0 2), (6, .osl 36 eI.w 0 r2.1.length (r2.1 ++ r2.2.1).length)] [(5, .box [.int .i64 r1.2.2.1, .int .i64 r1.2.2.2.1]), (28, .box [sq eI r3.2.1, .int .i64 r3.2.2]), (31, bufE eI (r1.1 ++ r1.2.1)), (36, bufE eI (r2.1 ++ r2.2.1))] ⟨Le.eq (by first | rfl | simp), Le.osl2 rfl rfl (by first | rfl | simp) (by first | rfl | simp), Le.eq (by first | rfl | simp), Le.osl2 rfl rfl (by first | rfl | simp) (by first | rfl | simp), trivial⟩ ⟨⟨_, rfl, LeO.refl _⟩, ⟨_, rfl, LeO.refl _⟩, ⟨_, rfl, by first | exact LeO.refl _ | exact LeO.room0⟩, ⟨_, rfl, by first | exact LeO.refl _ | exact LeO.room0⟩, trivial⟩ rfl (dom0 rfl) ?_
    exact (pilelaw1_GoalsFollowed.loops k).2.2.2.2 r1.2.2.1 r1.2.2.2.1 r3.2.1 r3.2.2 r1.2.1 r1.1 r2.2.1 r2.1 
  · refine RT.call rfl (fun _ h => slices_DeleteFunc_int_int_of_t_pilelaw1_GoalsFollowed_1.ok k r2.1 r2.2.1 r1.2.2.1 r1.2.2.2.1 _ h) (fun i => bif Nat.beq i 200100 then 5 else bif Nat.beq i 100000 then 36 else i) (LeL.eq rfl) ⟨⟨_, rfl, by first | exact LeO.refl _ | exact LeO.room0⟩, ⟨⟨_, rfl, by first | exact LeO.refl _ | exact LeO.room0⟩, trivial⟩⟩ (fun _ => rfl) (fun r4 => ?_)
    refine RS.go ?_
    refine RT.goto rfl ?_
    refine RS.weak [(3, .ref 28 0 0 0 2), (4, .osl 31 eI.w 0 r1.1.length (r1.1 ++ r1.2.1).length), (5, .ref 5 0 0 0 2), (6, .osl 36 eI.w 0 r4.1.length (r4.1 ++ r4.2).length)] [(5, .box [.int .i64 r1.2.2.1, .int .i64 r1.2.2.2.1]), (28, .box [sq eI r3.2.1, .int .i64 r3.2.2]), (31, bufE eI (r1.1 ++ r1.2.1)), (36, bufE eI (r4.1 ++ r4.2))] ⟨Le.eq (by first | rfl | simp), Le.osl2 rfl rfl (by first | rfl | simp) (by first | rfl | simp), Le.eq (by first | rfl | simp), Le.osl2 rfl rfl (by first | rfl | simp) (by first | rfl | simp), trivial⟩ ⟨⟨_, rfl, LeO.refl _⟩, ⟨_, rfl, LeO.refl _⟩, ⟨_, rfl, by first | exact LeO.refl _ | exact LeO.room0⟩, ⟨_, rfl, by first | exact LeO.refl _ | exact LeO.room0⟩, trivial⟩ rfl (dom0 rfl) ?_
    exact (pilelaw1_GoalsFollowed.loops k).2.2.2.2 r1.2.2.1 r1.2.2.2.1 r3.2.1 r3.2.2 r1.2.1 r1.1 r4.2 r4.1 
end Go.EV
