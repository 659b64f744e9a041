/- Printed by a program of this session: a Lean function for each function that the law reaches, and that the code comes to it. -/
import Derived.Test.YtfomkellljklcaaGreatEvS
set_option linter.unusedVariables false
set_option linter.unusedSimpArgs false
namespace Go.EV
open Go Go.Proofs Go.RowKit
set_option maxHeartbeats 4000000
set_option maxRecDepth 100000
set_option linter.unusedVariables false
def str_0 : ByteArray := ⟨#[0, 1, 2, 2, 3, 3, 3, 3, 4, 4, 4, 4, 4, 4, 4, 4, 5, 5, 5, 5, 5, 5, 5, 5, 5, 5, 5, 5, 5, 5, 5, 5, 6, 6, 6, 6, 6, 6, 6, 6, 6, 6, 6, 6, 6, 6, 6, 6, 6, 6, 6, 6, 6, 6, 6, 6, 6, 6, 6, 6, 6, 6, 6, 6, 7, 7, 7, 7, 7, 7, 7, 7, 7, 7, 7, 7, 7, 7, 7, 7, 7, 7, 7, 7, 7, 7, 7, 7, 7, 7, 7, 7, 7, 7, 7, 7, 7, 7, 7, 7, 7, 7, 7, 7, 7, 7, 7, 7, 7, 7, 7, 7, 7, 7, 7, 7, 7, 7, 7, 7, 7, 7, 7, 7, 7, 7, 7, 7, 8, 8, 8, 8, 8, 8, 8, 8, 8, 8, 8, 8, 8, 8, 8, 8, 8, 8, 8, 8, 8, 8, 8, 8, 8, 8, 8, 8, 8, 8, 8, 8, 8, 8, 8, 8, 8, 8, 8, 8, 8, 8, 8, 8, 8, 8, 8, 8, 8, 8, 8, 8, 8, 8, 8, 8, 8, 8, 8, 8, 8, 8, 8, 8, 8, 8, 8, 8, 8, 8, 8, 8, 8, 8, 8, 8, 8, 8, 8, 8, 8, 8, 8, 8, 8, 8, 8, 8, 8, 8, 8, 8, 8, 8, 8, 8, 8, 8, 8, 8, 8, 8, 8, 8, 8, 8, 8, 8, 8, 8, 8, 8, 8, 8, 8, 8, 8, 8, 8, 8, 8, 8, 8, 8, 8, 8, 8, 8]⟩
def e_IIII.c : (Int × Int × Int × Int) → Nat → AV
  | x, 0 => .int .i64 x.1
  | x, 1 => .int .u8 x.2.1
  | x, 2 => .int .i64 x.2.2.1
  | x, _ => .int .i64 x.2.2.2
def e_IIII : Enc (Int × Int × Int × Int) := ⟨4, (0, 0, 0, 0), e_IIII.c⟩
def e_II.c : (Int × Int) → Nat → AV
  | x, 0 => .int .i64 x.1
  | x, _ => .int .i64 x.2
def e_II : Enc (Int × Int) := ⟨2, (0, 0), e_II.c⟩
/-! ### pilemake_Below: function 59 -/
def pilemake_Below.j6 : Nat → Int → Option (Int)
  | 0, _ => Option.none
  | k + 1, x0j6 => Option.some x0j6
def pilemake_Below.f (k : Nat) (a0 : Int) (a1 : Int) : Option (Int) := (if a1 < 1 then Option.some 0 else (if a1 = 0 then Option.none else (if Int.tmod a0 a1 < 0 then pilemake_Below.j6 k (wrap64 ((Int.tmod a0 a1) + a1)) else pilemake_Below.j6 k (Int.tmod a0 a1))))
theorem pilemake_Below.loops : ∀ k, (∀ (x0j6 : Int), RS (fam Tryz.f59 [6] [] [] (fun r : Int => .int .i64 r) (fun r => [])) (Func.reg Tryz.f59 6) ⟨ofT [(0, .int .i64 x0j6)], ofL []⟩ (pilemake_Below.j6 k x0j6))
  | 0 => by intro _; simp only [pilemake_Below.j6]; exact RS.none
  | k + 1 => by
    have ih := pilemake_Below.loops k
    · intro x0j6
      simp only [pilemake_Below.j6]
      refine RS.region ?_
      refine RS.go ?_
      exact RT.done rfl rfl (Le.refl _) trivial rfl (dom0 rfl)
theorem pilemake_Below.ok (k : Nat) (a0 : Int) (a1 : Int) (r : Int) (h : pilemake_Below.f k a0 a1 = some r) : Ct Tryz.prog B 59 [.int .i64 a0, .int .i64 a1] (ofL []) (.int .i64 r) (ofL []) := by
  refine Ct.of (Y := (fam Tryz.f59 [6] [] [] (fun r : Int => .int .i64 r) (fun r => []))) Tryz.func59 rfl Tryz.call59 rfl rfl ?_ r h
  unfold pilemake_Below.f
  refine RS.go ?_
  refine RT.br rfl (fun c3 => ?_) (fun c3 => ?_)
  · exact RT.done rfl rfl (Le.refl _) trivial rfl (dom0 rfl)
  · refine RT.br rfl (fun _ => RT.none) (fun c2 => ?_)
    refine RT.br rfl (fun c1 => ?_) (fun c1 => ?_)
    · refine RT.goto rfl ?_
      refine RS.weak [(0, .int .i64 (wrap64 ((Int.tmod a0 a1) + a1)))] [] ⟨Le.eq (by first | rfl | simp), trivial⟩ trivial rfl (dom0 rfl) ?_
      exact pilemake_Below.loops k (wrap64 ((Int.tmod a0 a1) + a1)) 
    · refine RT.goto rfl ?_
      refine RS.weak [(0, .int .i64 (Int.tmod a0 a1))] [] ⟨Le.eq (by first | rfl | simp), trivial⟩ trivial rfl (dom0 rfl) ?_
      exact pilemake_Below.loops k (Int.tmod a0 a1) 
/-! ### pilemake_Stream_Next: function 34 -/
def pilemake_Stream_Next.k0 : List DK := [⟨[48], [], [6], []⟩, ⟨[42, 47], [], [48], []⟩, ⟨[46], [], [47], []⟩, ⟨[45], [100000], [46], []⟩, ⟨[44], [100000], [45], []⟩, ⟨[43], [100000], [44], []⟩, ⟨[0], [], [43], []⟩, ⟨[41], [], [42], []⟩, ⟨[40], [100000], [41], []⟩, ⟨[39], [100000], [40], []⟩, ⟨[38], [100000], [39], []⟩, ⟨[0], [], [38], []⟩]
def pilemake_Stream_Next.k1 : List Nat := [0, 1, 3, 7, 15, 0, 32, 96, 224, 480, 1023, 2047]
def pilemake_Stream_Next.k2 : List DK := [⟨[37], [], [5], []⟩, ⟨[31, 36], [], [37], []⟩, ⟨[35], [], [36], []⟩, ⟨[34], [100000], [35], []⟩, ⟨[33], [100000], [34], []⟩, ⟨[32], [100000], [33], []⟩, ⟨[0], [], [32], []⟩, ⟨[30], [], [31], []⟩, ⟨[29], [100000], [30], []⟩, ⟨[28], [100000], [29], []⟩, ⟨[27], [100000], [28], []⟩, ⟨[0], [], [27], []⟩]
def pilemake_Stream_Next.f (k : Nat) (p0_0 : List Int) (p0_1 : Int) (a1 : Int) : Option (Int × (List Int) × Int) := (if (p0_0.length : Int) = 0 then ((pilemake_Below.f k (wrap64 ((wrap64 (p0_1 + 1)) * 7919)) a1).bind fun r1 => Option.some (r1, p0_0, wrap64 (p0_1 + 1))) else (if (p0_0.length : Int) = 0 then Option.none else (if (p0_0.length : Int) = 0 then Option.none else (if 0 ≤ Int.tmod (wrap64 ((wrap64 (p0_1 + 1)) - 1)) (p0_0.length : Int) then (if Int.tmod (wrap64 ((wrap64 (p0_1 + 1)) - 1)) (p0_0.length : Int) < (p0_0.length : Int) then ((pilemake_Below.f k (rd p0_0 (Int.tmod (wrap64 ((wrap64 (p0_1 + 1)) - 1)) (p0_0.length : Int))) 1073741824).bind fun r4 => ((pilemake_Below.f k (wrap64 (r4 + (wrap64 ((wrap64 (Int.tdiv (wrap64 ((wrap64 (p0_1 + 1)) - 1)) (p0_0.length : Int))) * (wrap64 (7919 + (Int.tmod (wrap64 ((wrap64 (p0_1 + 1)) - 1)) (p0_0.length : Int)))))))) a1).bind fun r5 => Option.some (r5, p0_0, wrap64 (p0_1 + 1)))) else Option.none) else Option.none))))
theorem pilemake_Stream_Next.ok (k : Nat) (p0_0 : List Int) (p0_1 : Int) (a1 : Int) (r : Int × (List Int) × Int) (h : pilemake_Stream_Next.f k p0_0 p0_1 a1 = some r) : Ct Tryz.prog B 34 [.ref 100000 0 0 0 2, .int .i64 a1] (ofL [(100000, .box [sq eI p0_0, .int .i64 p0_1])]) (.int .i64 r.1) (ofL [(100000, .box [sq eI r.2.1, .int .i64 r.2.2])]) := by
  refine Ct.of (Y := (fam Tryz.f34 [] [] [(100000, .box [sq eI p0_0, .int .i64 p0_1])] (fun r : Int × (List Int) × Int => .int .i64 r.1) (fun r => [(100000, .box [sq eI r.2.1, .int .i64 r.2.2])]))) Tryz.func34 rfl Tryz.call34 rfl rfl ?_ r h
  unfold pilemake_Stream_Next.f
  refine RS.go ?_
  refine RT.br rfl (fun c8 => ?_) (fun c8 => ?_)
  · refine RT.call0 rfl (fun _ h => pilemake_Below.ok k (wrap64 ((wrap64 (p0_1 + 1)) * 7919)) a1 _ h) (LeL.eq rfl) (fun _ => rfl) (fun r1 => ?_)
    refine RS.go ?_
    exact RT.done rfl rfl (Le.refl _) ⟨⟨_, rfl, LeO.refl _⟩, trivial⟩ rfl (dom_of rfl)
  · refine RT.goto rfl ?_
    refine RS.draw rfl ?_
    refine RD.br rfl (fun _ => RD.none) (fun c7 => ?_)
    refine RD.fin pilemake_Stream_Next.k2 pilemake_Stream_Next.k1 rfl rfl (by decide +kernel) ?_
    refine RS.go ?_
    refine RT.goto rfl ?_
    refine RS.draw rfl ?_
    refine RD.br rfl (fun _ => RD.none) (fun c6 => ?_)
    refine RD.fin pilemake_Stream_Next.k0 pilemake_Stream_Next.k1 rfl rfl (by decide +kernel) ?_
    refine RS.go ?_
    refine RT.br rfl (fun c2 => ?_) (fun c2 => RT.none)
    refine RT.br rfl (fun c3 => ?_) (fun c3 => RT.none)
    refine RT.call0 rfl (fun _ h => pilemake_Below.ok k (rd p0_0 (Int.tmod (wrap64 ((wrap64 (p0_1 + 1)) - 1)) (p0_0.length : Int))) 1073741824 _ h) (LeL.eq rfl) (fun _ => rfl) (fun r4 => ?_)
    refine RS.go ?_
    refine RT.call0 rfl (fun _ h => pilemake_Below.ok k (wrap64 (r4 + (wrap64 ((wrap64 (Int.tdiv (wrap64 ((wrap64 (p0_1 + 1)) - 1)) (p0_0.length : Int))) * (wrap64 (7919 + (Int.tmod (wrap64 ((wrap64 (p0_1 + 1)) - 1)) (p0_0.length : Int)))))))) a1 _ h) (LeL.eq rfl) (fun _ => rfl) (fun r5 => ?_)
    refine RS.go ?_
    exact RT.done rfl rfl (Le.refl _) ⟨⟨_, rfl, LeO.refl _⟩, trivial⟩ rfl (dom_of rfl)
/-! ### pilemake_Stream_Range: function 30 -/
def pilemake_Stream_Range.f (k : Nat) (p0_0 : List Int) (p0_1 : Int) (a1 : Int) (a2 : Int) : Option (Int × (List Int) × Int) := (if a2 < a1 then Option.some (a1, p0_0, p0_1) else ((pilemake_Stream_Next.f k p0_0 p0_1 (wrap64 ((wrap64 (a2 - a1)) + 1))).bind fun r1 => Option.some (wrap64 (a1 + r1.1), r1.2.1, r1.2.2)))
theorem pilemake_Stream_Range.ok (k : Nat) (p0_0 : List Int) (p0_1 : Int) (a1 : Int) (a2 : Int) (r : Int × (List Int) × Int) (h : pilemake_Stream_Range.f k p0_0 p0_1 a1 a2 = some r) : Ct Tryz.prog B 30 [.ref 100000 0 0 0 2, .int .i64 a1, .int .i64 a2] (ofL [(100000, .box [sq eI p0_0, .int .i64 p0_1])]) (.int .i64 r.1) (ofL [(100000, .box [sq eI r.2.1, .int .i64 r.2.2])]) := by
  refine Ct.of (Y := (fam Tryz.f30 [] [] [(100000, .box [sq eI p0_0, .int .i64 p0_1])] (fun r : Int × (List Int) × Int => .int .i64 r.1) (fun r => [(100000, .box [sq eI r.2.1, .int .i64 r.2.2])]))) Tryz.func30 rfl Tryz.call30 rfl rfl ?_ r h
  unfold pilemake_Stream_Range.f
  refine RS.go ?_
  refine RT.br rfl (fun c2 => ?_) (fun c2 => ?_)
  · exact RT.done rfl rfl (Le.refl _) ⟨⟨_, rfl, LeO.refl _⟩, trivial⟩ rfl (dom_of rfl)
  · refine RT.call rfl (fun _ h => pilemake_Stream_Next.ok k p0_0 p0_1 (wrap64 ((wrap64 (a2 - a1)) + 1)) _ h) (fun i => bif Nat.beq i 100000 then 100000 else i) (LeL.eq rfl) ⟨⟨_, rfl, LeO.refl _⟩, trivial⟩ (fun _ => rfl) (fun r1 => ?_)
    refine RS.go ?_
    exact RT.done rfl rfl (Le.refl _) ⟨⟨_, rfl, LeO.refl _⟩, trivial⟩ rfl (dom_of rfl)
/-! ### pilemake_Stream_Pick: function 6 -/
def pilemake_Stream_Pick.f (k : Nat) (p0_0 : List Int) (p0_1 : Int) (l1 : List Int) : Option (Int × (List Int) × Int) := ((pilemake_Stream_Next.f k p0_0 p0_1 (l1.length : Int)).bind fun r1 => (if 0 ≤ r1.1 then (if r1.1 < (l1.length : Int) then Option.some ((rd l1 r1.1), r1.2.1, r1.2.2) else Option.none) else Option.none))
theorem pilemake_Stream_Pick.ok (k : Nat) (p0_0 : List Int) (p0_1 : Int) (l1 : List Int) (r : Int × (List Int) × Int) (h : pilemake_Stream_Pick.f k p0_0 p0_1 l1 = some r) : Ct Tryz.prog B 6 [.ref 100000 0 0 0 2, sq eI l1] (ofL [(100000, .box [sq eI p0_0, .int .i64 p0_1])]) (.int .i64 r.1) (ofL [(100000, .box [sq eI r.2.1, .int .i64 r.2.2])]) := by
  refine Ct.of (Y := (fam Tryz.f6 [] [] [(100000, .box [sq eI p0_0, .int .i64 p0_1])] (fun r : Int × (List Int) × Int => .int .i64 r.1) (fun r => [(100000, .box [sq eI r.2.1, .int .i64 r.2.2])]))) Tryz.func6 rfl Tryz.call6 rfl rfl ?_ r h
  unfold pilemake_Stream_Pick.f
  refine RS.go ?_
  refine RT.call rfl (fun _ h => pilemake_Stream_Next.ok k p0_0 p0_1 (l1.length : Int) _ h) (fun i => bif Nat.beq i 100000 then 100000 else i) (LeL.eq rfl) ⟨⟨_, rfl, LeO.refl _⟩, trivial⟩ (fun _ => rfl) (fun r1 => ?_)
  refine RS.go ?_
  refine RT.br rfl (fun c2 => ?_) (fun c2 => RT.none)
  refine RT.br rfl (fun c3 => ?_) (fun c3 => RT.none)
  exact RT.done rfl rfl (Le.refl _) ⟨⟨_, rfl, LeO.refl _⟩, trivial⟩ rfl (dom_of rfl)
/-! ### pilemake_Stream_Flip: function 8 -/
def pilemake_Stream_Flip.f (k : Nat) (p0_0 : List Int) (p0_1 : Int) (a1 : Int) : Option (Bool × (List Int) × Int) := ((pilemake_Stream_Next.f k p0_0 p0_1 a1).bind fun r1 => Option.some ((decide (r1.1 = 0)), r1.2.1, r1.2.2))
theorem pilemake_Stream_Flip.ok (k : Nat) (p0_0 : List Int) (p0_1 : Int) (a1 : Int) (r : Bool × (List Int) × Int) (h : pilemake_Stream_Flip.f k p0_0 p0_1 a1 = some r) : Ct Tryz.prog B 8 [.ref 100000 0 0 0 2, .int .i64 a1] (ofL [(100000, .box [sq eI p0_0, .int .i64 p0_1])]) (.bool r.1) (ofL [(100000, .box [sq eI r.2.1, .int .i64 r.2.2])]) := by
  refine Ct.of (Y := (fam Tryz.f8 [] [] [(100000, .box [sq eI p0_0, .int .i64 p0_1])] (fun r : Bool × (List Int) × Int => .bool r.1) (fun r => [(100000, .box [sq eI r.2.1, .int .i64 r.2.2])]))) Tryz.func8 rfl Tryz.call8 rfl rfl ?_ r h
  unfold pilemake_Stream_Flip.f
  refine RS.go ?_
  refine RT.call rfl (fun _ h => pilemake_Stream_Next.ok k p0_0 p0_1 a1 _ h) (fun i => bif Nat.beq i 100000 then 100000 else i) (LeL.eq rfl) ⟨⟨_, rfl, LeO.refl _⟩, trivial⟩ (fun _ => rfl) (fun r1 => ?_)
  refine RS.go ?_
  exact RT.done rfl rfl (Le.refl _) ⟨⟨_, rfl, LeO.refl _⟩, trivial⟩ rfl (dom_of rfl)
/-! ### pilemake_Stream_Odd: function 31 -/
def pilemake_Stream_Odd.f (k : Nat) (p0_0 : List Int) (p0_1 : Int) (a1 : Int) (a2 : Int) : Option (Int × (List Int) × Int) := ((pilemake_Stream_Flip.f k p0_0 p0_1 12).bind fun r1 => (if r1.1 = true then ((pilemake_Stream_Pick.f k r1.2.1 r1.2.2 [wrap64 (a1 - 1), wrap64 (a2 + 1), a1, a2, (-1099511627776), 1099511627776]).bind fun r2 => Option.some (r2.1, r2.2.1, r2.2.2)) else ((pilemake_Stream_Range.f k r1.2.1 r1.2.2 a1 a2).bind fun r3 => Option.some (r3.1, r3.2.1, r3.2.2))))
theorem pilemake_Stream_Odd.ok (k : Nat) (p0_0 : List Int) (p0_1 : Int) (a1 : Int) (a2 : Int) (r : Int × (List Int) × Int) (h : pilemake_Stream_Odd.f k p0_0 p0_1 a1 a2 = some r) : Ct Tryz.prog B 31 [.ref 100000 0 0 0 2, .int .i64 a1, .int .i64 a2] (ofL [(100000, .box [sq eI p0_0, .int .i64 p0_1])]) (.int .i64 r.1) (ofL [(100000, .box [sq eI r.2.1, .int .i64 r.2.2])]) := by
  refine Ct.of (Y := (fam Tryz.f31 [] [] [(100000, .box [sq eI p0_0, .int .i64 p0_1])] (fun r : Int × (List Int) × Int => .int .i64 r.1) (fun r => [(100000, .box [sq eI r.2.1, .int .i64 r.2.2])]))) Tryz.func31 rfl Tryz.call31 rfl rfl ?_ r h
  unfold pilemake_Stream_Odd.f
  refine RS.go ?_
  refine RT.call rfl (fun _ h => pilemake_Stream_Flip.ok k p0_0 p0_1 12 _ h) (fun i => bif Nat.beq i 100000 then 100000 else i) (LeL.eq rfl) ⟨⟨_, rfl, LeO.refl _⟩, trivial⟩ (fun _ => rfl) (fun r1 => ?_)
  refine RS.go ?_
  refine RT.brB rfl (fun c4 => ?_) (fun c4 => ?_)
  · refine RT.goto rfl ?_
    refine RS.slot 16 (sq eI [wrap64 (a1 - 1), wrap64 (a2 + 1), a1, a2, (-1099511627776), 1099511627776]) (Le.lit (E := eI) (l := [wrap64 (a1 - 1), wrap64 (a2 + 1), a1, a2, (-1099511627776), 1099511627776]) (cells_of rfl)) ?_
    refine RS.go ?_
    refine RT.call rfl (fun _ h => pilemake_Stream_Pick.ok k r1.2.1 r1.2.2 [wrap64 (a1 - 1), wrap64 (a2 + 1), a1, a2, (-1099511627776), 1099511627776] _ h) (fun i => bif Nat.beq i 100000 then 100000 else i) (LeL.eq rfl) ⟨⟨_, rfl, LeO.refl _⟩, trivial⟩ (fun _ => rfl) (fun r2 => ?_)
    refine RS.go ?_
    exact RT.done rfl rfl (Le.refl _) ⟨⟨_, rfl, LeO.refl _⟩, trivial⟩ rfl (dom_of rfl)
  · refine RT.call rfl (fun _ h => pilemake_Stream_Range.ok k r1.2.1 r1.2.2 a1 a2 _ h) (fun i => bif Nat.beq i 100000 then 100000 else i) (LeL.eq rfl) ⟨⟨_, rfl, LeO.refl _⟩, trivial⟩ (fun _ => rfl) (fun r3 => ?_)
    refine RS.go ?_
    exact RT.done rfl rfl (Le.refl _) ⟨⟨_, rfl, LeO.refl _⟩, trivial⟩ rfl (dom_of rfl)
/-! ### pilemake_Stream_SiteOf: function 4 -/
def pilemake_Stream_SiteOf.j4 : Nat → Int → Int → List Int → Int → Option (Int × Int × (List Int) × Int)
  | 0, _, _, _, _ => Option.none
  | k + 1, o3_0j4, o3_1j4, o100000_0j4, o100000_1j4 => Option.some (o3_0j4, o3_1j4, o100000_0j4, o100000_1j4)
def pilemake_Stream_SiteOf.f (k : Nat) (p0_0 : List Int) (p0_1 : Int) : Option (Int × Int × (List Int) × Int) := ((pilemake_Stream_Range.f k p0_0 p0_1 (-324000) 324000).bind fun r1 => ((pilemake_Stream_Pick.f k r1.2.1 r1.2.2 [0, 172800, 174599, (-324000), 324000, r1.1]).bind fun r2 => ((pilemake_Stream_Range.f k r2.2.1 r2.2.2 (-648000) 647999).bind fun r3 => ((pilemake_Stream_Pick.f k r3.2.1 r3.2.2 [0, 36000, (-648000), 647999, r3.1]).bind fun r4 => ((pilemake_Stream_Flip.f k r4.2.1 r4.2.2 20).bind fun r5 => (if r5.1 = true then ((pilemake_Stream_Odd.f k r5.2.1 r5.2.2 (-324000) 324000).bind fun r6 => ((pilemake_Stream_Odd.f k r6.2.1 r6.2.2 (-648000) 647999).bind fun r7 => pilemake_Stream_SiteOf.j4 k r6.1 r7.1 r7.2.1 r7.2.2)) else pilemake_Stream_SiteOf.j4 k r2.1 r4.1 r5.2.1 r5.2.2))))))
theorem pilemake_Stream_SiteOf.loops (p0_0 : List Int) (p0_1 : Int) : ∀ k, (∀ (o3_0j4 : Int) (o3_1j4 : Int) (o100000_0j4 : List Int) (o100000_1j4 : Int), RS (fam Tryz.f4 [4] [] [(100000, .box [sq eI p0_0, .int .i64 p0_1])] (fun r : Int × Int × (List Int) × Int => .agg [.int .i64 r.1, .int .i64 r.2.1]) (fun r => [(100000, .box [sq eI r.2.2.1, .int .i64 r.2.2.2])])) (Func.reg Tryz.f4 4) ⟨ofT [(2, .ref 2 0 0 0 2), (3, .ref 3 0 0 0 2)], ofL [(2, .box [.int .i64 0, .int .i64 0]), (3, .box [.int .i64 o3_0j4, .int .i64 o3_1j4]), (100000, .box [sq eI o100000_0j4, .int .i64 o100000_1j4])]⟩ (pilemake_Stream_SiteOf.j4 k o3_0j4 o3_1j4 o100000_0j4 o100000_1j4))
  | 0 => by intro _ _ _ _; simp only [pilemake_Stream_SiteOf.j4]; exact RS.none
  | k + 1 => by
    have ih := pilemake_Stream_SiteOf.loops p0_0 p0_1 k
    · intro o3_0j4 o3_1j4 o100000_0j4 o100000_1j4
      simp only [pilemake_Stream_SiteOf.j4]
      refine RS.region ?_
      refine RS.go ?_
      exact RT.done rfl rfl (Le.refl _) ⟨⟨_, rfl, LeO.refl _⟩, trivial⟩ rfl (dom_of rfl)
theorem pilemake_Stream_SiteOf.ok (k : Nat) (p0_0 : List Int) (p0_1 : Int) (r : Int × Int × (List Int) × Int) (h : pilemake_Stream_SiteOf.f k p0_0 p0_1 = some r) : Ct Tryz.prog B 4 [.ref 100000 0 0 0 2] (ofL [(100000, .box [sq eI p0_0, .int .i64 p0_1])]) (.agg [.int .i64 r.1, .int .i64 r.2.1]) (ofL [(100000, .box [sq eI r.2.2.1, .int .i64 r.2.2.2])]) := by
  refine Ct.of (Y := (fam Tryz.f4 [4] [] [(100000, .box [sq eI p0_0, .int .i64 p0_1])] (fun r : Int × Int × (List Int) × Int => .agg [.int .i64 r.1, .int .i64 r.2.1]) (fun r => [(100000, .box [sq eI r.2.2.1, .int .i64 r.2.2.2])]))) Tryz.func4 rfl Tryz.call4 rfl rfl ?_ r h
  unfold pilemake_Stream_SiteOf.f
  refine RS.go ?_
  refine RT.call rfl (fun _ h => pilemake_Stream_Range.ok k p0_0 p0_1 (-324000) 324000 _ h) (fun i => bif Nat.beq i 100000 then 100000 else i) (LeL.eq rfl) ⟨⟨_, rfl, LeO.refl _⟩, trivial⟩ (fun _ => rfl) (fun r1 => ?_)
  refine RS.go ?_
  refine RT.goto rfl ?_
  refine RS.slot 7 (sq eI [0, 172800, 174599, (-324000), 324000, r1.1]) (Le.lit (E := eI) (l := [0, 172800, 174599, (-324000), 324000, r1.1]) (cells_of rfl)) ?_
  refine RS.go ?_
  refine RT.call rfl (fun _ h => pilemake_Stream_Pick.ok k r1.2.1 r1.2.2 [0, 172800, 174599, (-324000), 324000, r1.1] _ h) (fun i => bif Nat.beq i 100000 then 100000 else i) (LeL.eq rfl) ⟨⟨_, rfl, LeO.refl _⟩, trivial⟩ (fun _ => rfl) (fun r2 => ?_)
  refine RS.go ?_
  refine RT.call rfl (fun _ h => pilemake_Stream_Range.ok k r2.2.1 r2.2.2 (-648000) 647999 _ h) (fun i => bif Nat.beq i 100000 then 100000 else i) (LeL.eq rfl) ⟨⟨_, rfl, LeO.refl _⟩, trivial⟩ (fun _ => rfl) (fun r3 => ?_)
  refine RS.go ?_
  refine RT.goto rfl ?_
  refine RS.slot 12 (sq eI [0, 36000, (-648000), 647999, r3.1]) (Le.lit (E := eI) (l := [0, 36000, (-648000), 647999, r3.1]) (cells_of rfl)) ?_
  refine RS.go ?_
  refine RT.call rfl (fun _ h => pilemake_Stream_Pick.ok k r3.2.1 r3.2.2 [0, 36000, (-648000), 647999, r3.1] _ h) (fun i => bif Nat.beq i 100000 then 100000 else i) (LeL.eq rfl) ⟨⟨_, rfl, LeO.refl _⟩, trivial⟩ (fun _ => rfl) (fun r4 => ?_)
  refine RS.go ?_
  refine RT.call rfl (fun _ h => pilemake_Stream_Flip.ok k r4.2.1 r4.2.2 20 _ h) (fun i => bif Nat.beq i 100000 then 100000 else i) (LeL.eq rfl) ⟨⟨_, rfl, LeO.refl _⟩, trivial⟩ (fun _ => rfl) (fun r5 => ?_)
  refine RS.go ?_
  refine RT.brB rfl (fun c8 => ?_) (fun c8 => ?_)
  · refine RT.call rfl (fun _ h => pilemake_Stream_Odd.ok k r5.2.1 r5.2.2 (-324000) 324000 _ h) (fun i => bif Nat.beq i 100000 then 100000 else i) (LeL.eq rfl) ⟨⟨_, rfl, LeO.refl _⟩, trivial⟩ (fun _ => rfl) (fun r6 => ?_)
    refine RS.go ?_
    refine RT.call rfl (fun _ h => pilemake_Stream_Odd.ok k r6.2.1 r6.2.2 (-648000) 647999 _ h) (fun i => bif Nat.beq i 100000 then 100000 else i) (LeL.eq rfl) ⟨⟨_, rfl, LeO.refl _⟩, trivial⟩ (fun _ => rfl) (fun r7 => ?_)
    refine RS.go ?_
    refine RT.goto rfl ?_
    refine RS.weak [(2, .ref 2 0 0 0 2), (3, .ref 3 0 0 0 2)] [(2, .box [.int .i64 0, .int .i64 0]), (3, .box [.int .i64 r6.1, .int .i64 r7.1]), (100000, .box [sq eI r7.2.1, .int .i64 r7.2.2])] ⟨Le.eq (by first | rfl | simp), Le.eq (by first | rfl | simp), trivial⟩ ⟨⟨_, rfl, LeO.refl _⟩, ⟨_, rfl, LeO.refl _⟩, ⟨_, rfl, LeO.refl _⟩, trivial⟩ rfl (dom_of rfl) ?_
    exact pilemake_Stream_SiteOf.loops p0_0 p0_1 k r6.1 r7.1 r7.2.1 r7.2.2 
  · refine RT.goto rfl ?_
    refine RS.weak [(2, .ref 2 0 0 0 2), (3, .ref 3 0 0 0 2)] [(2, .box [.int .i64 0, .int .i64 0]), (3, .box [.int .i64 r2.1, .int .i64 r4.1]), (100000, .box [sq eI r5.2.1, .int .i64 r5.2.2])] ⟨Le.eq (by first | rfl | simp), Le.eq (by first | rfl | simp), trivial⟩ ⟨⟨_, rfl, LeO.refl _⟩, ⟨_, rfl, LeO.refl _⟩, ⟨_, rfl, LeO.refl _⟩, trivial⟩ rfl (dom_of rfl) ?_
    exact pilemake_Stream_SiteOf.loops p0_0 p0_1 k r2.1 r4.1 r5.2.1 r5.2.2 
/-! ### pileref1_in: function 35 -/
def pileref1_in.f (a0 : Int) (a1 : Int) (a2 : Int) : Option (Bool) := (if a1 ≤ a0 then Option.some (decide (a0 ≤ a2)) else Option.some false)
theorem pileref1_in.ok (a0 : Int) (a1 : Int) (a2 : Int) (r : Bool) (h : pileref1_in.f a0 a1 a2 = some r) : Ct Tryz.prog B 35 [.int .i64 a0, .int .i64 a1, .int .i64 a2] (ofL []) (.bool r) (ofL []) := by
  refine Ct.of (Y := (fam Tryz.f35 [] [] [] (fun r : Bool => .bool r) (fun r => []))) Tryz.func35 rfl Tryz.call35 rfl rfl ?_ r h
  unfold pileref1_in.f
  refine RS.go ?_
  refine RT.br rfl (fun c1 => ?_) (fun c1 => ?_)
  · refine RT.brT rfl ?_
    refine RT.brT rfl ?_
    refine RT.brT rfl ?_
    exact RT.done rfl rfl (Le.refl _) trivial rfl (dom0 rfl)
  · refine RT.brF rfl ?_
    refine RT.brF rfl ?_
    refine RT.brF rfl ?_
    exact RT.done rfl rfl (Le.refl _) trivial rfl (dom0 rfl)
/-! ### pileref1_SiteFault: function 9 -/
def pileref1_SiteFault.f (a0_0 : Int) (a0_1 : Int) : Option (Int) := ((pileref1_in.f a0_0 (-324000) 324000).bind fun r1 => (if r1 = true then ((pileref1_in.f a0_1 (-648000) 647999).bind fun r2 => (if r2 = true then Option.some 0 else Option.some 1)) else Option.some 1))
theorem pileref1_SiteFault.ok (a0_0 : Int) (a0_1 : Int) (r : Int) (h : pileref1_SiteFault.f a0_0 a0_1 = some r) : Ct Tryz.prog B 9 [.agg [.int .i64 a0_0, .int .i64 a0_1]] (ofL []) (.int .i64 r) (ofL []) := by
  refine Ct.of (Y := (fam Tryz.f9 [] [] [] (fun r : Int => .int .i64 r) (fun r => []))) Tryz.func9 rfl Tryz.call9 rfl rfl ?_ r h
  unfold pileref1_SiteFault.f
  refine RS.go ?_
  refine RT.call0 rfl (fun _ h => pileref1_in.ok a0_0 (-324000) 324000 _ h) (LeL.eq rfl) (fun _ => rfl) (fun r1 => ?_)
  refine RS.go ?_
  refine RT.brBN rfl (fun c4 => ?_) (fun c4 => ?_)
  · refine RT.brF rfl ?_
    refine RT.brF rfl ?_
    refine RT.call0 rfl (fun _ h => pileref1_in.ok a0_1 (-648000) 647999 _ h) (LeL.eq rfl) (fun _ => rfl) (fun r2 => ?_)
    refine RS.go ?_
    refine RT.brF rfl ?_
    refine RT.brF rfl ?_
    refine RT.brBN rfl (fun c3 => ?_) (fun c3 => ?_)
    · exact RT.done rfl rfl (Le.refl _) trivial rfl (dom0 rfl)
    · exact RT.done rfl rfl (Le.refl _) trivial rfl (dom0 rfl)
  · refine RT.brT rfl ?_
    refine RT.brT rfl ?_
    refine RT.brT rfl ?_
    refine RT.brT rfl ?_
    refine RT.brT rfl ?_
    exact RT.done rfl rfl (Le.refl _) trivial rfl (dom0 rfl)
/-! ### pilemake_Stream_RightSite: function 32 -/
def pilemake_Stream_RightSite.l0 : Nat → Int → List Int → Int → Option (Int × Int × (List Int) × Int)
  | 0, _, _, _ => Option.none
  | k + 1, x4, o100000_0, o100000_1 => (if x4 < 6 then ((pilemake_Stream_SiteOf.f k o100000_0 o100000_1).bind fun r1 => ((pileref1_SiteFault.f r1.1 r1.2.1).bind fun r2 => (if r2 = 0 then Option.some (r1.1, r1.2.1, r1.2.2.1, r1.2.2.2) else pilemake_Stream_RightSite.l0 k (wrap64 (x4 + 1)) r1.2.2.1 r1.2.2.2))) else Option.some (0, 0, o100000_0, o100000_1))
def pilemake_Stream_RightSite.f (k : Nat) (p0_0 : List Int) (p0_1 : Int) : Option (Int × Int × (List Int) × Int) := pilemake_Stream_RightSite.l0 k 0 p0_0 p0_1
theorem pilemake_Stream_RightSite.loops (p0_0 : List Int) (p0_1 : Int) : ∀ k, (∀ (x4 : Int) (o100000_0 : List Int) (o100000_1 : Int), RS (fam Tryz.f32 [] [] [(100000, .box [sq eI p0_0, .int .i64 p0_1])] (fun r : Int × Int × (List Int) × Int => .agg [.int .i64 r.1, .int .i64 r.2.1]) (fun r => [(100000, .box [sq eI r.2.2.1, .int .i64 r.2.2.2])])) (Func.head Tryz.f32 0) ⟨ofT [(0, .ref 100000 0 0 0 2), (2, .ref 2 0 0 0 2), (4, .int .i64 x4)], ofL [(2, .box [.int .i64 0, .int .i64 0]), (100000, .box [sq eI o100000_0, .int .i64 o100000_1])]⟩ (pilemake_Stream_RightSite.l0 k x4 o100000_0 o100000_1))
  | 0 => by intro _ _ _; simp only [pilemake_Stream_RightSite.l0]; exact RS.none
  | k + 1 => by
    have ih := pilemake_Stream_RightSite.loops p0_0 p0_1 k
    · intro x4 o100000_0 o100000_1
      simp only [pilemake_Stream_RightSite.l0]
      refine RS.go ?_
      refine RT.br rfl (fun c4 => ?_) (fun c4 => ?_)
      · refine RT.call rfl (fun _ h => pilemake_Stream_SiteOf.ok k o100000_0 o100000_1 _ h) (fun i => bif Nat.beq i 100000 then 100000 else i) (LeL.eq rfl) ⟨⟨_, rfl, LeO.refl _⟩, trivial⟩ (fun _ => rfl) (fun r1 => ?_)
        refine RS.go ?_
        refine RT.call0 rfl (fun _ h => pileref1_SiteFault.ok r1.1 r1.2.1 _ h) (LeL.eq rfl) (fun _ => rfl) (fun r2 => ?_)
        refine RS.go ?_
        refine RT.br rfl (fun c3 => ?_) (fun c3 => ?_)
        · exact RT.done rfl rfl (Le.refl _) ⟨⟨_, rfl, LeO.refl _⟩, trivial⟩ rfl (dom_of rfl)
        · refine RT.goto rfl ?_
          refine RS.weak [(0, .ref 100000 0 0 0 2), (2, .ref 2 0 0 0 2), (4, .int .i64 (wrap64 (x4 + 1)))] [(2, .box [.int .i64 0, .int .i64 0]), (100000, .box [sq eI r1.2.2.1, .int .i64 r1.2.2.2])] ⟨Le.eq (by first | rfl | simp), Le.eq (by first | rfl | simp), Le.eq (by first | rfl | simp), trivial⟩ ⟨⟨_, rfl, LeO.refl _⟩, ⟨_, rfl, LeO.refl _⟩, trivial⟩ rfl (dom_of rfl) ?_
          exact ih (wrap64 (x4 + 1)) r1.2.2.1 r1.2.2.2 
      · exact RT.done rfl rfl (Le.refl _) ⟨⟨_, rfl, LeO.refl _⟩, trivial⟩ rfl (dom_of rfl)
theorem pilemake_Stream_RightSite.ok (k : Nat) (p0_0 : List Int) (p0_1 : Int) (r : Int × Int × (List Int) × Int) (h : pilemake_Stream_RightSite.f k p0_0 p0_1 = some r) : Ct Tryz.prog B 32 [.ref 100000 0 0 0 2] (ofL [(100000, .box [sq eI p0_0, .int .i64 p0_1])]) (.agg [.int .i64 r.1, .int .i64 r.2.1]) (ofL [(100000, .box [sq eI r.2.2.1, .int .i64 r.2.2.2])]) := by
  refine Ct.of (Y := (fam Tryz.f32 [] [] [(100000, .box [sq eI p0_0, .int .i64 p0_1])] (fun r : Int × Int × (List Int) × Int => .agg [.int .i64 r.1, .int .i64 r.2.1]) (fun r => [(100000, .box [sq eI r.2.2.1, .int .i64 r.2.2.2])]))) Tryz.func32 rfl Tryz.call32 rfl rfl ?_ r h
  unfold pilemake_Stream_RightSite.f
  refine RS.go ?_
  refine RT.goto rfl ?_
  refine RS.weak [(0, .ref 100000 0 0 0 2), (2, .ref 2 0 0 0 2), (4, .int .i64 0)] [(2, .box [.int .i64 0, .int .i64 0]), (100000, .box [sq eI p0_0, .int .i64 p0_1])] ⟨Le.eq (by first | rfl | simp), Le.eq (by first | rfl | simp), Le.eq (by first | rfl | simp), trivial⟩ ⟨⟨_, rfl, LeO.refl _⟩, ⟨_, rfl, LeO.refl _⟩, trivial⟩ rfl (dom_of rfl) ?_
  exact pilemake_Stream_RightSite.loops p0_0 p0_1 k 0 p0_0 p0_1 
/-! ### pileref1_LocatorFor_1: function 51 -/
def pileref1_LocatorFor_1.f (a0 : Int) (a1 : Int) : Option (ByteArray) := (if a1 = 0 then Option.none else Option.some (Utf8.encode (IntKind.i32.wrap (wrap64 (97 + (Int.tmod a0 a1))))))
theorem pileref1_LocatorFor_1.ok (a0 : Int) (a1 : Int) (r : ByteArray) (h : pileref1_LocatorFor_1.f a0 a1 = some r) : Ct Tryz.prog B 51 [.int .i64 a0, .int .i64 a1] (ofL []) (.str r) (ofL []) := by
  refine Ct.of (Y := (fam Tryz.f51 [] [] [] (fun r : ByteArray => .str r) (fun r => []))) Tryz.func51 rfl Tryz.call51 rfl rfl ?_ r h
  unfold pileref1_LocatorFor_1.f
  refine RS.go ?_
  refine RT.br rfl (fun _ => RT.none) (fun c1 => ?_)
  exact RT.done rfl rfl (Le.refl _) trivial rfl (dom0 rfl)
/-! ### pileref1_LocatorFor: function 23 -/
def pileref1_LocatorFor.k0 : List DK := [⟨[15], [], [6], []⟩, ⟨[11], [], [5], []⟩, ⟨[14], [], [15], []⟩, ⟨[13], [], [14], []⟩, ⟨[12], [2], [13], []⟩, ⟨[2], [2], [12], []⟩, ⟨[10], [], [11], []⟩, ⟨[9], [2], [10], []⟩, ⟨[2], [2], [9], []⟩]
def pileref1_LocatorFor.k1 : List Nat := [0, 1, 3, 0, 8, 24, 56, 7, 255]
mutual
def pileref1_LocatorFor.j8 : Nat → ByteArray → Option (ByteArray)
  | 0, _ => Option.none
  | k + 1, x8j8 => Option.some x8j8
def pileref1_LocatorFor.j6 : Nat → Int → Int → Int → ByteArray → Option (ByteArray)
  | 0, _, _, _, _ => Option.none
  | k + 1, a0_0, a0_1, a1, x8j6 => (if a1 > 4 then ((pileref1_LocatorFor_1.f (wrap64 (Int.tdiv (wrap64 (a0_1 + 648000)) 300)) 24).bind fun r6 => ((pileref1_LocatorFor_1.f (wrap64 (Int.tdiv (mn (wrap64 (a0_0 + 324000)) 647999) 150)) 24).bind fun r7 => (if r6.size + r7.size ≤ 9223372036854775807 then (if x8j6.size + (r6 ++ r7).size ≤ 9223372036854775807 then pileref1_LocatorFor.j8 k (x8j6 ++ (r6 ++ r7)) else Option.none) else Option.none))) else pileref1_LocatorFor.j8 k x8j6)
end
def pileref1_LocatorFor.f (k : Nat) (a0_0 : Int) (a0_1 : Int) (a1 : Int) : Option (ByteArray) := ((pileref1_LocatorFor_1.f (wrap64 (Int.tdiv (wrap64 (a0_1 + 648000)) 72000)) 18).bind fun r1 => ((pileref1_LocatorFor_1.f (wrap64 (Int.tdiv (mn (wrap64 (a0_0 + 324000)) 647999) 36000)) 18).bind fun r2 => (if r1.size + r2.size ≤ 9223372036854775807 then (if a1 > 2 then (if (Utf8.encode (IntKind.i32.wrap (wrap64 (48 + (Int.tmod (wrap64 (Int.tdiv (wrap64 (a0_1 + 648000)) 7200)) 10))))).size + (Utf8.encode (IntKind.i32.wrap (wrap64 (48 + (Int.tmod (wrap64 (Int.tdiv (mn (wrap64 (a0_0 + 324000)) 647999) 3600)) 10))))).size ≤ 9223372036854775807 then (if (r1 ++ r2).size + ((Utf8.encode (IntKind.i32.wrap (wrap64 (48 + (Int.tmod (wrap64 (Int.tdiv (wrap64 (a0_1 + 648000)) 7200)) 10))))) ++ (Utf8.encode (IntKind.i32.wrap (wrap64 (48 + (Int.tmod (wrap64 (Int.tdiv (mn (wrap64 (a0_0 + 324000)) 647999) 3600)) 10)))))).size ≤ 9223372036854775807 then pileref1_LocatorFor.j6 k a0_0 a0_1 a1 ((r1 ++ r2) ++ ((Utf8.encode (IntKind.i32.wrap (wrap64 (48 + (Int.tmod (wrap64 (Int.tdiv (wrap64 (a0_1 + 648000)) 7200)) 10))))) ++ (Utf8.encode (IntKind.i32.wrap (wrap64 (48 + (Int.tmod (wrap64 (Int.tdiv (mn (wrap64 (a0_0 + 324000)) 647999) 3600)) 10))))))) else Option.none) else Option.none) else pileref1_LocatorFor.j6 k a0_0 a0_1 a1 (r1 ++ r2)) else Option.none)))
theorem pileref1_LocatorFor.loops : ∀ k, (∀ (x8j8 : ByteArray), RS (fam Tryz.f23 [6, 8] [] [] (fun r : ByteArray => .str r) (fun r => [])) (Func.reg Tryz.f23 8) ⟨ofT [(8, .str x8j8)], ofL []⟩ (pileref1_LocatorFor.j8 k x8j8)) ∧ (∀ (a0_0 : Int) (a0_1 : Int) (a1 : Int) (x8j6 : ByteArray), RS (fam Tryz.f23 [6, 8] [] [] (fun r : ByteArray => .str r) (fun r => [])) (Func.reg Tryz.f23 6) ⟨ofT [(1, .int .i64 a1), (5, .int .i64 (wrap64 (a0_1 + 648000))), (6, .int .i64 (mn (wrap64 (a0_0 + 324000)) 647999)), (7, .fn 51 []), (8, .str x8j6)], ofL []⟩ (pileref1_LocatorFor.j6 k a0_0 a0_1 a1 x8j6))
  | 0 => ⟨by intro _; simp only [pileref1_LocatorFor.j8]; exact RS.none, by intro _ _ _ _; simp only [pileref1_LocatorFor.j6]; exact RS.none⟩
  | k + 1 => by
    have ih := pileref1_LocatorFor.loops k
    refine ⟨?_, ?_⟩
    · intro x8j8
      simp only [pileref1_LocatorFor.j8]
      refine RS.region ?_
      refine RS.go ?_
      exact RT.done rfl rfl (Le.refl _) trivial rfl (dom0 rfl)
    · intro a0_0 a0_1 a1 x8j6
      simp only [pileref1_LocatorFor.j6]
      refine RS.region ?_
      refine RS.go ?_
      refine RT.br rfl (fun c10 => ?_) (fun c10 => ?_)
      · refine RT.brF rfl ?_
        refine RT.call0 rfl (fun _ h => pileref1_LocatorFor_1.ok (wrap64 (Int.tdiv (wrap64 (a0_1 + 648000)) 300)) 24 _ h) (LeL.eq rfl) (fun _ => rfl) (fun r6 => ?_)
        refine RS.go ?_
        refine RT.brF rfl ?_
        refine RT.call0 rfl (fun _ h => pileref1_LocatorFor_1.ok (wrap64 (Int.tdiv (mn (wrap64 (a0_0 + 324000)) 647999) 150)) 24 _ h) (LeL.eq rfl) (fun _ => rfl) (fun r7 => ?_)
        refine RS.go ?_
        refine RT.br rfl (fun c8 => ?_) (fun c8 => RT.none)
        refine RT.br rfl (fun c9 => ?_) (fun c9 => RT.none)
        refine RT.goto rfl ?_
        refine RS.weak [(8, .str (x8j6 ++ (r6 ++ r7)))] [] ⟨Le.eq (by first | rfl | simp), trivial⟩ trivial rfl (dom0 rfl) ?_
        exact ih.1 (x8j6 ++ (r6 ++ r7)) 
      · refine RT.goto rfl ?_
        refine RS.weak [(8, .str x8j6)] [] ⟨Le.eq (by first | rfl | simp), trivial⟩ trivial rfl (dom0 rfl) ?_
        exact ih.1 x8j6 
theorem pileref1_LocatorFor.ok (k : Nat) (a0_0 : Int) (a0_1 : Int) (a1 : Int) (r : ByteArray) (h : pileref1_LocatorFor.f k a0_0 a0_1 a1 = some r) : Ct Tryz.prog B 23 [.agg [.int .i64 a0_0, .int .i64 a0_1], .int .i64 a1] (ofL []) (.str r) (ofL []) := by
  refine Ct.of (Y := (fam Tryz.f23 [6, 8] [] [] (fun r : ByteArray => .str r) (fun r => []))) Tryz.func23 rfl Tryz.call23 rfl rfl ?_ r h
  unfold pileref1_LocatorFor.f
  refine RS.go ?_
  refine RT.goto rfl ?_
  refine RS.draw rfl ?_
  refine RD.fin pileref1_LocatorFor.k0 pileref1_LocatorFor.k1 rfl rfl (by decide +kernel) ?_
  refine RS.go ?_
  refine RT.brF rfl ?_
  refine RT.call0 rfl (fun _ h => pileref1_LocatorFor_1.ok (wrap64 (Int.tdiv (wrap64 (a0_1 + 648000)) 72000)) 18 _ h) (LeL.eq rfl) (fun _ => rfl) (fun r1 => ?_)
  refine RS.go ?_
  refine RT.brF rfl ?_
  refine RT.call0 rfl (fun _ h => pileref1_LocatorFor_1.ok (wrap64 (Int.tdiv (mn (wrap64 (a0_0 + 324000)) 647999) 36000)) 18 _ h) (LeL.eq rfl) (fun _ => rfl) (fun r2 => ?_)
  refine RS.go ?_
  refine RT.br rfl (fun c3 => ?_) (fun c3 => RT.none)
  refine RT.br rfl (fun c11 => ?_) (fun c11 => ?_)
  · refine RT.brF rfl ?_
    refine RT.brF rfl ?_
    refine RT.brF rfl ?_
    refine RT.brF rfl ?_
    refine RT.br rfl (fun c4 => ?_) (fun c4 => RT.none)
    refine RT.br rfl (fun c5 => ?_) (fun c5 => RT.none)
    refine RT.goto rfl ?_
    refine RS.weak [(1, .int .i64 a1), (5, .int .i64 (wrap64 (a0_1 + 648000))), (6, .int .i64 (mn (wrap64 (a0_0 + 324000)) 647999)), (7, .fn 51 []), (8, .str ((r1 ++ r2) ++ ((Utf8.encode (IntKind.i32.wrap (wrap64 (48 + (Int.tmod (wrap64 (Int.tdiv (wrap64 (a0_1 + 648000)) 7200)) 10))))) ++ (Utf8.encode (IntKind.i32.wrap (wrap64 (48 + (Int.tmod (wrap64 (Int.tdiv (mn (wrap64 (a0_0 + 324000)) 647999) 3600)) 10))))))))] [] ⟨Le.eq (by first | rfl | simp), Le.eq (by first | rfl | simp), Le.eq (by first | rfl | simp), Le.eq (by first | rfl | simp), Le.eq (by first | rfl | simp), trivial⟩ trivial rfl (dom0 rfl) ?_
    exact (pileref1_LocatorFor.loops k).2 a0_0 a0_1 a1 ((r1 ++ r2) ++ ((Utf8.encode (IntKind.i32.wrap (wrap64 (48 + (Int.tmod (wrap64 (Int.tdiv (wrap64 (a0_1 + 648000)) 7200)) 10))))) ++ (Utf8.encode (IntKind.i32.wrap (wrap64 (48 + (Int.tmod (wrap64 (Int.tdiv (mn (wrap64 (a0_0 + 324000)) 647999) 3600)) 10))))))) 
  · refine RT.goto rfl ?_
    refine RS.weak [(1, .int .i64 a1), (5, .int .i64 (wrap64 (a0_1 + 648000))), (6, .int .i64 (mn (wrap64 (a0_0 + 324000)) 647999)), (7, .fn 51 []), (8, .str (r1 ++ r2))] [] ⟨Le.eq (by first | rfl | simp), Le.eq (by first | rfl | simp), Le.eq (by first | rfl | simp), Le.eq (by first | rfl | simp), Le.eq (by first | rfl | simp), trivial⟩ trivial rfl (dom0 rfl) ?_
    exact (pileref1_LocatorFor.loops k).2 a0_0 a0_1 a1 (r1 ++ r2) 
/-! ### pilemake_Stream_Changed: function 33 -/
def pilemake_Stream_Changed.k0 : List DK := [⟨[41], [], [6], []⟩, ⟨[36, 40], [], [41], []⟩, ⟨[37, 39], [], [40], []⟩, ⟨[38], [], [39], []⟩, ⟨[7], [], [38], []⟩, ⟨[1], [], [37], []⟩, ⟨[32, 35], [], [36], []⟩, ⟨[34], [], [35], []⟩, ⟨[33], [], [34], []⟩, ⟨[8], [], [33], []⟩, ⟨[30, 31], [], [32], []⟩, ⟨[7], [], [31], []⟩, ⟨[1], [], [30], []⟩]
def pilemake_Stream_Changed.k1 : List Nat := [0, 0, 3, 0, 8, 24, 63, 0, 0, 256, 896, 2047, 4095]
def pilemake_Stream_Changed.k2 : List DK := [⟨[54], [], [6], []⟩, ⟨[50, 53], [], [54], []⟩, ⟨[51, 52], [], [53], []⟩, ⟨[7], [], [52], []⟩, ⟨[1], [], [51], []⟩, ⟨[46, 49], [], [50], []⟩, ⟨[48], [], [49], []⟩, ⟨[47], [], [48], []⟩, ⟨[8], [], [47], []⟩, ⟨[44, 45], [], [46], []⟩, ⟨[7], [], [45], []⟩, ⟨[1], [], [44], []⟩]
def pilemake_Stream_Changed.k3 : List Nat := [0, 0, 3, 0, 8, 24, 63, 0, 0, 384, 1023, 2047]
def pilemake_Stream_Changed.k4 : List DK := [⟨[62], [], [6], []⟩, ⟨[57, 61], [], [62], []⟩, ⟨[58, 60], [], [61], []⟩, ⟨[59], [], [60], []⟩, ⟨[7], [], [59], []⟩, ⟨[1], [], [58], []⟩, ⟨[55, 56], [], [57], []⟩, ⟨[7], [], [56], []⟩, ⟨[1], [], [55], []⟩]
def pilemake_Stream_Changed.k5 : List Nat := [0, 0, 3, 0, 0, 16, 56, 127, 255]
def pilemake_Stream_Changed.f (k : Nat) (p0_0 : List Int) (p0_1 : Int) (a1 : ByteArray) (a2 : ByteArray) : Option (ByteArray × (List Int) × Int) := (if a1 = (⟨#[]⟩ : ByteArray) then Option.some (a2, p0_0, p0_1) else (if a2 = (⟨#[]⟩ : ByteArray) then Option.some (a2, p0_0, p0_1) else ((pilemake_Stream_Next.f k p0_0 p0_1 (a1.size : Int)).bind fun r1 => ((pilemake_Stream_Next.f k r1.2.1 r1.2.2 (a2.size : Int)).bind fun r2 => (if 0 ≤ r2.1 then (if r2.1 < (a2.size : Int) then ((pilemake_Stream_Next.f k r2.2.1 r2.2.2 3).bind fun r5 => (if r5.1 = 0 then (if 0 ≤ r1.1 then (if r1.1 ≤ (a1.size : Int) then (if (a1.extract 0 (r1.1).toNat).size + (Utf8.encode (IntKind.i32.wrap (bt a2 r2.1))).size ≤ 9223372036854775807 then (if 0 ≤ wrap64 (r1.1 + 1) then (if wrap64 (r1.1 + 1) ≤ (a1.size : Int) then (if ((a1.extract 0 (r1.1).toNat) ++ (Utf8.encode (IntKind.i32.wrap (bt a2 r2.1)))).size + (a1.extract (wrap64 (r1.1 + 1)).toNat ((a1.size : Int)).toNat).size ≤ 9223372036854775807 then Option.some (((a1.extract 0 (r1.1).toNat) ++ (Utf8.encode (IntKind.i32.wrap (bt a2 r2.1)))) ++ (a1.extract (wrap64 (r1.1 + 1)).toNat ((a1.size : Int)).toNat), r5.2.1, r5.2.2) else Option.none) else Option.none) else Option.none) else Option.none) else Option.none) else Option.none) else (if r5.1 = 1 then (if 0 ≤ r1.1 then (if r1.1 ≤ (a1.size : Int) then (if (a1.extract 0 (r1.1).toNat).size + (Utf8.encode (IntKind.i32.wrap (bt a2 r2.1))).size ≤ 9223372036854775807 then (if 0 ≤ r1.1 then (if r1.1 ≤ (a1.size : Int) then (if ((a1.extract 0 (r1.1).toNat) ++ (Utf8.encode (IntKind.i32.wrap (bt a2 r2.1)))).size + (a1.extract (r1.1).toNat ((a1.size : Int)).toNat).size ≤ 9223372036854775807 then Option.some (((a1.extract 0 (r1.1).toNat) ++ (Utf8.encode (IntKind.i32.wrap (bt a2 r2.1)))) ++ (a1.extract (r1.1).toNat ((a1.size : Int)).toNat), r5.2.1, r5.2.2) else Option.none) else Option.none) else Option.none) else Option.none) else Option.none) else Option.none) else (if 0 ≤ r1.1 then (if r1.1 ≤ (a1.size : Int) then (if 0 ≤ wrap64 (r1.1 + 1) then (if wrap64 (r1.1 + 1) ≤ (a1.size : Int) then (if (a1.extract 0 (r1.1).toNat).size + (a1.extract (wrap64 (r1.1 + 1)).toNat ((a1.size : Int)).toNat).size ≤ 9223372036854775807 then Option.some ((a1.extract 0 (r1.1).toNat) ++ (a1.extract (wrap64 (r1.1 + 1)).toNat ((a1.size : Int)).toNat), r5.2.1, r5.2.2) else Option.none) else Option.none) else Option.none) else Option.none) else Option.none)))) else Option.none) else Option.none)))))
theorem pilemake_Stream_Changed.ok (k : Nat) (p0_0 : List Int) (p0_1 : Int) (a1 : ByteArray) (a2 : ByteArray) (r : ByteArray × (List Int) × Int) (h : pilemake_Stream_Changed.f k p0_0 p0_1 a1 a2 = some r) : Ct Tryz.prog B 33 [.ref 100000 0 0 0 2, .str a1, .str a2] (ofL [(100000, .box [sq eI p0_0, .int .i64 p0_1])]) (.str r.1) (ofL [(100000, .box [sq eI r.2.1, .int .i64 r.2.2])]) := by
  refine Ct.of (Y := (fam Tryz.f33 [] [] [(100000, .box [sq eI p0_0, .int .i64 p0_1])] (fun r : ByteArray × (List Int) × Int => .str r.1) (fun r => [(100000, .box [sq eI r.2.1, .int .i64 r.2.2])]))) Tryz.func33 rfl Tryz.call33 rfl rfl ?_ r h
  unfold pilemake_Stream_Changed.f
  refine RS.go ?_
  refine RT.br rfl (fun c26 => ?_) (fun c26 => ?_)
  · refine RT.brT rfl ?_
    refine RT.brT rfl ?_
    refine RT.brT rfl ?_
    exact RT.done rfl rfl (Le.refl _) ⟨⟨_, rfl, LeO.refl _⟩, trivial⟩ rfl (dom_of rfl)
  · refine RT.brF rfl ?_
    refine RT.brF rfl ?_
    refine RT.br rfl (fun c25 => ?_) (fun c25 => ?_)
    · exact RT.done rfl rfl (Le.refl _) ⟨⟨_, rfl, LeO.refl _⟩, trivial⟩ rfl (dom_of rfl)
    · refine RT.call rfl (fun _ h => pilemake_Stream_Next.ok k p0_0 p0_1 (a1.size : Int) _ h) (fun i => bif Nat.beq i 100000 then 100000 else i) (LeL.eq rfl) ⟨⟨_, rfl, LeO.refl _⟩, trivial⟩ (fun _ => rfl) (fun r1 => ?_)
      refine RS.go ?_
      refine RT.call rfl (fun _ h => pilemake_Stream_Next.ok k r1.2.1 r1.2.2 (a2.size : Int) _ h) (fun i => bif Nat.beq i 100000 then 100000 else i) (LeL.eq rfl) ⟨⟨_, rfl, LeO.refl _⟩, trivial⟩ (fun _ => rfl) (fun r2 => ?_)
      refine RS.go ?_
      refine RT.br rfl (fun c3 => ?_) (fun c3 => RT.none)
      refine RT.br rfl (fun c4 => ?_) (fun c4 => RT.none)
      refine RT.call rfl (fun _ h => pilemake_Stream_Next.ok k r2.2.1 r2.2.2 3 _ h) (fun i => bif Nat.beq i 100000 then 100000 else i) (LeL.eq rfl) ⟨⟨_, rfl, LeO.refl _⟩, trivial⟩ (fun _ => rfl) (fun r5 => ?_)
      refine RS.go ?_
      refine RT.br rfl (fun c24 => ?_) (fun c24 => ?_)
      · refine RT.goto rfl ?_
        refine RS.draw rfl ?_
        refine RD.br rfl (fun c6 => ?_) (fun c6 => RD.none)
        refine RD.br rfl (fun c7 => ?_) (fun c7 => RD.none)
        refine RD.br rfl (fun c8 => ?_) (fun c8 => RD.none)
        refine RD.br rfl (fun c9 => ?_) (fun c9 => RD.none)
        refine RD.br rfl (fun c10 => ?_) (fun c10 => RD.none)
        refine RD.br rfl (fun c11 => ?_) (fun c11 => RD.none)
        refine RD.fin pilemake_Stream_Changed.k0 pilemake_Stream_Changed.k1 rfl rfl (by decide +kernel) ?_
        refine RS.go ?_
        exact RT.done rfl rfl (Le.refl _) ⟨⟨_, rfl, LeO.refl _⟩, trivial⟩ rfl (dom_of rfl)
      · refine RT.br rfl (fun c23 => ?_) (fun c23 => ?_)
        · refine RT.goto rfl ?_
          refine RS.draw rfl ?_
          refine RD.br rfl (fun c12 => ?_) (fun c12 => RD.none)
          refine RD.br rfl (fun c13 => ?_) (fun c13 => RD.none)
          refine RD.br rfl (fun c14 => ?_) (fun c14 => RD.none)
          refine RD.br rfl (fun c15 => ?_) (fun c15 => RD.none)
          refine RD.br rfl (fun c16 => ?_) (fun c16 => RD.none)
          refine RD.br rfl (fun c17 => ?_) (fun c17 => RD.none)
          refine RD.fin pilemake_Stream_Changed.k2 pilemake_Stream_Changed.k3 rfl rfl (by decide +kernel) ?_
          refine RS.go ?_
          exact RT.done rfl rfl (Le.refl _) ⟨⟨_, rfl, LeO.refl _⟩, trivial⟩ rfl (dom_of rfl)
        · refine RT.goto rfl ?_
          refine RS.draw rfl ?_
          refine RD.br rfl (fun c18 => ?_) (fun c18 => RD.none)
          refine RD.br rfl (fun c19 => ?_) (fun c19 => RD.none)
          refine RD.br rfl (fun c20 => ?_) (fun c20 => RD.none)
          refine RD.br rfl (fun c21 => ?_) (fun c21 => RD.none)
          refine RD.br rfl (fun c22 => ?_) (fun c22 => RD.none)
          refine RD.fin pilemake_Stream_Changed.k4 pilemake_Stream_Changed.k5 rfl rfl (by decide +kernel) ?_
          refine RS.go ?_
          exact RT.done rfl rfl (Le.refl _) ⟨⟨_, rfl, LeO.refl _⟩, trivial⟩ rfl (dom_of rfl)
/-! ### pilemake_Stream_LocatorText: function 5 -/
def pilemake_Stream_LocatorText.j4 : Nat → ByteArray → List Int → Int → Option (ByteArray × (List Int) × Int)
  | 0, _, _, _ => Option.none
  | k + 1, x3j4, o100000_0j4, o100000_1j4 => Option.some (x3j4, o100000_0j4, o100000_1j4)
def pilemake_Stream_LocatorText.f (k : Nat) (p0_0 : List Int) (p0_1 : Int) : Option (ByteArray × (List Int) × Int) := ((pilemake_Stream_RightSite.f k p0_0 p0_1).bind fun r1 => ((pilemake_Stream_Pick.f k r1.2.2.1 r1.2.2.2 [2, 4, 4, 6, 6]).bind fun r2 => ((pileref1_LocatorFor.f k r1.1 r1.2.1 r2.1).bind fun r3 => ((pilemake_Stream_Flip.f k r2.2.1 r2.2.2 12).bind fun r4 => (if r4.1 = true then ((pilemake_Stream_Changed.f k r4.2.1 r4.2.2 r3 (⟨#[97, 114, 115, 120, 48, 57, 121]⟩ : ByteArray)).bind fun r5 => pilemake_Stream_LocatorText.j4 k r5.1 r5.2.1 r5.2.2) else pilemake_Stream_LocatorText.j4 k r3 r4.2.1 r4.2.2)))))
theorem pilemake_Stream_LocatorText.loops (p0_0 : List Int) (p0_1 : Int) : ∀ k, (∀ (x3j4 : ByteArray) (o100000_0j4 : List Int) (o100000_1j4 : Int), RS (fam Tryz.f5 [4] [] [(100000, .box [sq eI p0_0, .int .i64 p0_1])] (fun r : ByteArray × (List Int) × Int => .str r.1) (fun r => [(100000, .box [sq eI r.2.1, .int .i64 r.2.2])])) (Func.reg Tryz.f5 4) ⟨ofT [(3, .str x3j4)], ofL [(100000, .box [sq eI o100000_0j4, .int .i64 o100000_1j4])]⟩ (pilemake_Stream_LocatorText.j4 k x3j4 o100000_0j4 o100000_1j4))
  | 0 => by intro _ _ _; simp only [pilemake_Stream_LocatorText.j4]; exact RS.none
  | k + 1 => by
    have ih := pilemake_Stream_LocatorText.loops p0_0 p0_1 k
    · intro x3j4 o100000_0j4 o100000_1j4
      simp only [pilemake_Stream_LocatorText.j4]
      refine RS.region ?_
      refine RS.go ?_
      exact RT.done rfl rfl (Le.refl _) ⟨⟨_, rfl, LeO.refl _⟩, trivial⟩ rfl (dom_of rfl)
theorem pilemake_Stream_LocatorText.ok (k : Nat) (p0_0 : List Int) (p0_1 : Int) (r : ByteArray × (List Int) × Int) (h : pilemake_Stream_LocatorText.f k p0_0 p0_1 = some r) : Ct Tryz.prog B 5 [.ref 100000 0 0 0 2] (ofL [(100000, .box [sq eI p0_0, .int .i64 p0_1])]) (.str r.1) (ofL [(100000, .box [sq eI r.2.1, .int .i64 r.2.2])]) := by
  refine Ct.of (Y := (fam Tryz.f5 [4] [] [(100000, .box [sq eI p0_0, .int .i64 p0_1])] (fun r : ByteArray × (List Int) × Int => .str r.1) (fun r => [(100000, .box [sq eI r.2.1, .int .i64 r.2.2])]))) Tryz.func5 rfl Tryz.call5 rfl rfl ?_ r h
  unfold pilemake_Stream_LocatorText.f
  refine RS.go ?_
  refine RT.call rfl (fun _ h => pilemake_Stream_RightSite.ok k p0_0 p0_1 _ h) (fun i => bif Nat.beq i 100000 then 100000 else i) (LeL.eq rfl) ⟨⟨_, rfl, LeO.refl _⟩, trivial⟩ (fun _ => rfl) (fun r1 => ?_)
  refine RS.go ?_
  refine RT.goto rfl ?_
  refine RS.slot 7 (sq eI [2, 4, 4, 6, 6]) (Le.lit (E := eI) (l := [2, 4, 4, 6, 6]) (cells_of rfl)) ?_
  refine RS.go ?_
  refine RT.call rfl (fun _ h => pilemake_Stream_Pick.ok k r1.2.2.1 r1.2.2.2 [2, 4, 4, 6, 6] _ h) (fun i => bif Nat.beq i 100000 then 100000 else i) (LeL.eq rfl) ⟨⟨_, rfl, LeO.refl _⟩, trivial⟩ (fun _ => rfl) (fun r2 => ?_)
  refine RS.go ?_
  refine RT.call0 rfl (fun _ h => pileref1_LocatorFor.ok k r1.1 r1.2.1 r2.1 _ h) (LeL.eq rfl) (fun _ => rfl) (fun r3 => ?_)
  refine RS.go ?_
  refine RT.call rfl (fun _ h => pilemake_Stream_Flip.ok k r2.2.1 r2.2.2 12 _ h) (fun i => bif Nat.beq i 100000 then 100000 else i) (LeL.eq rfl) ⟨⟨_, rfl, LeO.refl _⟩, trivial⟩ (fun _ => rfl) (fun r4 => ?_)
  refine RS.go ?_
  refine RT.brB rfl (fun c6 => ?_) (fun c6 => ?_)
  · refine RT.call rfl (fun _ h => pilemake_Stream_Changed.ok k r4.2.1 r4.2.2 r3 (⟨#[97, 114, 115, 120, 48, 57, 121]⟩ : ByteArray) _ h) (fun i => bif Nat.beq i 100000 then 100000 else i) (LeL.eq rfl) ⟨⟨_, rfl, LeO.refl _⟩, trivial⟩ (fun _ => rfl) (fun r5 => ?_)
    refine RS.go ?_
    refine RT.goto rfl ?_
    refine RS.weak [(3, .str r5.1)] [(100000, .box [sq eI r5.2.1, .int .i64 r5.2.2])] ⟨Le.eq (by first | rfl | simp), trivial⟩ ⟨⟨_, rfl, LeO.refl _⟩, trivial⟩ rfl (dom_of rfl) ?_
    exact pilemake_Stream_LocatorText.loops p0_0 p0_1 k r5.1 r5.2.1 r5.2.2 
  · refine RT.goto rfl ?_
    refine RS.weak [(3, .str r3)] [(100000, .box [sq eI r4.2.1, .int .i64 r4.2.2])] ⟨Le.eq (by first | rfl | simp), trivial⟩ ⟨⟨_, rfl, LeO.refl _⟩, trivial⟩ rfl (dom_of rfl) ?_
    exact pilemake_Stream_LocatorText.loops p0_0 p0_1 k r3 r4.2.1 r4.2.2 
/-! ### pilemake_Stream_LocatorList: function 7 -/
mutual
def pilemake_Stream_LocatorList.j8 : Nat → List ByteArray → List Int → Int → Option ((List ByteArray) × (List Int) × Int)
  | 0, _, _, _ => Option.none
  | k + 1, o5j8, o100000_0j8, o100000_1j8 => Option.some (o5j8, o100000_0j8, o100000_1j8)
def pilemake_Stream_LocatorList.l0 : Nat → Int → Int → List ByteArray → List Int → Int → Option ((List ByteArray) × (List Int) × Int)
  | 0, _, _, _, _, _ => Option.none
  | k + 1, x8, x9, o5, o100000_0, o100000_1 => (if x9 < x8 then ((pilemake_Stream_RightSite.f k o100000_0 o100000_1).bind fun r2 => ((pilemake_Stream_Pick.f k r2.2.2.1 r2.2.2.2 [4, 4, 6, 6, 6, 2]).bind fun r3 => ((pileref1_LocatorFor.f k r2.1 r2.2.1 r3.1).bind fun r4 => (if o5.length + 1 ≤ 549755813888 then pilemake_Stream_LocatorList.l0 k x8 (wrap64 (x9 + 1)) (o5 ++ [r4]) r3.2.1 r3.2.2 else Option.none)))) else ((pilemake_Stream_Flip.f k o100000_0 o100000_1 20).bind fun r6 => (if r6.1 = true then ((pilemake_Stream_LocatorText.f k r6.2.1 r6.2.2).bind fun r7 => (if o5.length + 1 ≤ 549755813888 then pilemake_Stream_LocatorList.j8 k (o5 ++ [r7.1]) r7.2.1 r7.2.2 else Option.none)) else pilemake_Stream_LocatorList.j8 k o5 r6.2.1 r6.2.2)))
end
def pilemake_Stream_LocatorList.f (k : Nat) (p0_0 : List Int) (p0_1 : Int) (a1 : Int) : Option ((List ByteArray) × (List Int) × Int) := ((pilemake_Stream_Range.f k p0_0 p0_1 0 a1).bind fun r1 => pilemake_Stream_LocatorList.l0 k r1.1 0 [] r1.2.1 r1.2.2)
theorem pilemake_Stream_LocatorList.loops (p0_0 : List Int) (p0_1 : Int) : ∀ k, (∀ (o5j8 : List ByteArray) (o100000_0j8 : List Int) (o100000_1j8 : Int), RS (fam Tryz.f7 [8] [] [(100000, .box [sq eI p0_0, .int .i64 p0_1])] (fun r : (List ByteArray) × (List Int) × Int => sq eS r.1) (fun r => [(100000, .box [sq eI r.2.1, .int .i64 r.2.2])])) (Func.reg Tryz.f7 8) ⟨ofT [(5, .osl 5 eS.w 0 o5j8.length o5j8.length)], ofL [(5, bufE eS o5j8), (100000, .box [sq eI o100000_0j8, .int .i64 o100000_1j8])]⟩ (pilemake_Stream_LocatorList.j8 k o5j8 o100000_0j8 o100000_1j8)) ∧ (∀ (x8 : Int) (x9 : Int) (o5 : List ByteArray) (o100000_0 : List Int) (o100000_1 : Int), RS (fam Tryz.f7 [8] [] [(100000, .box [sq eI p0_0, .int .i64 p0_1])] (fun r : (List ByteArray) × (List Int) × Int => sq eS r.1) (fun r => [(100000, .box [sq eI r.2.1, .int .i64 r.2.2])])) (Func.head Tryz.f7 0) ⟨ofT [(0, .ref 100000 0 0 0 2), (5, .osl 5 eS.w 0 o5.length o5.length), (8, .int .i64 x8), (9, .int .i64 x9)], ofL [(5, bufE eS o5), (100000, .box [sq eI o100000_0, .int .i64 o100000_1])]⟩ (pilemake_Stream_LocatorList.l0 k x8 x9 o5 o100000_0 o100000_1))
  | 0 => ⟨by intro _ _ _; simp only [pilemake_Stream_LocatorList.j8]; exact RS.none, by intro _ _ _ _ _; simp only [pilemake_Stream_LocatorList.l0]; exact RS.none⟩
  | k + 1 => by
    have ih := pilemake_Stream_LocatorList.loops p0_0 p0_1 k
    refine ⟨?_, ?_⟩
    · intro o5j8 o100000_0j8 o100000_1j8
      simp only [pilemake_Stream_LocatorList.j8]
      refine RS.region ?_
      refine RS.go ?_
      refine RT.freeze 5 _ _ _ [(4, sq eS o5j8)] [(100000, .box [sq eI o100000_0j8, .int .i64 o100000_1j8])] rfl rfl ⟨.inr ⟨_, rfl, by first | exact Nat.le_refl _ | simp, rfl⟩, trivial⟩ ⟨⟨_, rfl, LeO.refl _⟩, trivial⟩ rfl (dom_of rfl) ?_
      exact RT.done rfl rfl (Le.refl _) ⟨⟨_, rfl, LeO.refl _⟩, trivial⟩ rfl (dom_of rfl)
    · intro x8 x9 o5 o100000_0 o100000_1
      simp only [pilemake_Stream_LocatorList.l0]
      refine RS.go ?_
      refine RT.br rfl (fun c10 => ?_) (fun c10 => ?_)
      · refine RT.call rfl (fun _ h => pilemake_Stream_RightSite.ok k o100000_0 o100000_1 _ h) (fun i => bif Nat.beq i 100000 then 100000 else i) (LeL.eq rfl) ⟨⟨_, rfl, LeO.refl _⟩, trivial⟩ (fun _ => rfl) (fun r2 => ?_)
        refine RS.go ?_
        refine RT.goto rfl ?_
        refine RS.slot 15 (sq eI [4, 4, 6, 6, 6, 2]) (Le.lit (E := eI) (l := [4, 4, 6, 6, 6, 2]) (cells_of rfl)) ?_
        refine RS.go ?_
        refine RT.call rfl (fun _ h => pilemake_Stream_Pick.ok k r2.2.2.1 r2.2.2.2 [4, 4, 6, 6, 6, 2] _ h) (fun i => bif Nat.beq i 100000 then 100000 else i) (LeL.eq rfl) ⟨⟨_, rfl, LeO.refl _⟩, trivial⟩ (fun _ => rfl) (fun r3 => ?_)
        refine RS.go ?_
        refine RT.call0 rfl (fun _ h => pileref1_LocatorFor.ok k r2.1 r2.2.1 r3.1 _ h) (LeL.eq rfl) (fun _ => rfl) (fun r4 => ?_)
        refine RS.go ?_
        refine RT.goto rfl ?_
        refine RS.slot 18 (sq eS [r4]) (Le.lit (E := eS) (l := [r4]) (cells_of rfl)) ?_
        refine RS.go ?_
        refine RT.req rfl ⟨by first | rfl | simp, by first | exact Nat.le_refl _ | simp⟩ ?_
        refine RT.not rfl (by simp <;> omega) ?_
        refine RT.br rfl (fun c5 => ?_) (fun _ => RT.none)
        refine RT.goto rfl ?_
        refine RS.obj 5 (bufE eS (o5 ++ [r4])) ⟨_, rfl, LeO.app (l := o5) (m := [r4]) fun _ _ _ _ => rfl⟩ ?_
        refine RS.slot 19 (.osl 5 eS.w 0 (o5 ++ [r4]).length (o5 ++ [r4]).length) (by first | exact Le.oslN rfl (by simp) | exact Le.trans (y := .osl 5 eS.w 0 (o5.length + 1) (o5.length + 1)) (Le.refl _) (Le.oslN rfl (by simp))) ?_
        refine RS.go ?_
        refine RT.goto rfl ?_
        refine RS.weak [(0, .ref 100000 0 0 0 2), (5, .osl 5 eS.w 0 (o5 ++ [r4]).length (o5 ++ [r4]).length), (8, .int .i64 x8), (9, .int .i64 (wrap64 (x9 + 1)))] [(5, bufE eS (o5 ++ [r4])), (100000, .box [sq eI r3.2.1, .int .i64 r3.2.2])] ⟨Le.eq (by first | rfl | simp), (by first | exact Le.oslN rfl (by first | rfl | simp) | exact Le.refl _ | exact Le.eq (by first | rfl | simp)), Le.eq (by first | rfl | simp), Le.eq (by first | rfl | simp), trivial⟩ ⟨⟨_, rfl, LeO.refl _⟩, ⟨_, rfl, LeO.refl _⟩, trivial⟩ rfl (dom_of rfl) ?_
        exact ih.2 x8 (wrap64 (x9 + 1)) (o5 ++ [r4]) r3.2.1 r3.2.2 
      · refine RT.call rfl (fun _ h => pilemake_Stream_Flip.ok k o100000_0 o100000_1 20 _ h) (fun i => bif Nat.beq i 100000 then 100000 else i) (LeL.eq rfl) ⟨⟨_, rfl, LeO.refl _⟩, trivial⟩ (fun _ => rfl) (fun r6 => ?_)
        refine RS.go ?_
        refine RT.brB rfl (fun c9 => ?_) (fun c9 => ?_)
        · refine RT.call rfl (fun _ h => pilemake_Stream_LocatorText.ok k r6.2.1 r6.2.2 _ h) (fun i => bif Nat.beq i 100000 then 100000 else i) (LeL.eq rfl) ⟨⟨_, rfl, LeO.refl _⟩, trivial⟩ (fun _ => rfl) (fun r7 => ?_)
          refine RS.go ?_
          refine RT.goto rfl ?_
          refine RS.slot 26 (sq eS [r7.1]) (Le.lit (E := eS) (l := [r7.1]) (cells_of rfl)) ?_
          refine RS.go ?_
          refine RT.req rfl ⟨by first | rfl | simp, by first | exact Nat.le_refl _ | simp⟩ ?_
          refine RT.not rfl (by simp <;> omega) ?_
          refine RT.br rfl (fun c8 => ?_) (fun _ => RT.none)
          refine RT.goto rfl ?_
          refine RS.obj 5 (bufE eS (o5 ++ [r7.1])) ⟨_, rfl, LeO.app (l := o5) (m := [r7.1]) fun _ _ _ _ => rfl⟩ ?_
          refine RS.slot 27 (.osl 5 eS.w 0 (o5 ++ [r7.1]).length (o5 ++ [r7.1]).length) (by first | exact Le.oslN rfl (by simp) | exact Le.trans (y := .osl 5 eS.w 0 (o5.length + 1) (o5.length + 1)) (Le.refl _) (Le.oslN rfl (by simp))) ?_
          refine RS.go ?_
          refine RT.goto rfl ?_
          refine RS.weak [(5, .osl 5 eS.w 0 (o5 ++ [r7.1]).length (o5 ++ [r7.1]).length)] [(5, bufE eS (o5 ++ [r7.1])), (100000, .box [sq eI r7.2.1, .int .i64 r7.2.2])] ⟨(by first | exact Le.oslN rfl (by first | rfl | simp) | exact Le.refl _ | exact Le.eq (by first | rfl | simp)), trivial⟩ ⟨⟨_, rfl, LeO.refl _⟩, ⟨_, rfl, LeO.refl _⟩, trivial⟩ rfl (dom_of rfl) ?_
          exact ih.1 (o5 ++ [r7.1]) r7.2.1 r7.2.2 
        · refine RT.goto rfl ?_
          refine RS.weak [(5, .osl 5 eS.w 0 o5.length o5.length)] [(5, bufE eS o5), (100000, .box [sq eI r6.2.1, .int .i64 r6.2.2])] ⟨(by first | exact Le.oslN rfl (by first | rfl | simp) | exact Le.refl _ | exact Le.eq (by first | rfl | simp)), trivial⟩ ⟨⟨_, rfl, LeO.refl _⟩, ⟨_, rfl, LeO.refl _⟩, trivial⟩ rfl (dom_of rfl) ?_
          exact ih.1 o5 r6.2.1 r6.2.2 
theorem pilemake_Stream_LocatorList.ok (k : Nat) (p0_0 : List Int) (p0_1 : Int) (a1 : Int) (r : (List ByteArray) × (List Int) × Int) (h : pilemake_Stream_LocatorList.f k p0_0 p0_1 a1 = some r) : Ct Tryz.prog B 7 [.ref 100000 0 0 0 2, .int .i64 a1] (ofL [(100000, .box [sq eI p0_0, .int .i64 p0_1])]) (sq eS r.1) (ofL [(100000, .box [sq eI r.2.1, .int .i64 r.2.2])]) := by
  refine Ct.of (Y := (fam Tryz.f7 [8] [] [(100000, .box [sq eI p0_0, .int .i64 p0_1])] (fun r : (List ByteArray) × (List Int) × Int => sq eS r.1) (fun r => [(100000, .box [sq eI r.2.1, .int .i64 r.2.2])]))) Tryz.func7 rfl Tryz.call7 rfl rfl ?_ r h
  unfold pilemake_Stream_LocatorList.f
  refine RS.go ?_
  refine RT.call rfl (fun _ h => pilemake_Stream_Range.ok k p0_0 p0_1 0 a1 _ h) (fun i => bif Nat.beq i 100000 then 100000 else i) (LeL.eq rfl) ⟨⟨_, rfl, LeO.refl _⟩, trivial⟩ (fun _ => rfl) (fun r1 => ?_)
  refine RS.go ?_
  refine RT.goto rfl ?_
  refine RS.ghost 5 5 eS.w (rep eS []) rfl rfl ?_
  refine RS.weak [(0, .ref 100000 0 0 0 2), (5, .osl 5 eS.w 0 ([] : List ByteArray).length ([] : List ByteArray).length), (8, .int .i64 r1.1), (9, .int .i64 0)] [(5, bufE eS ([] : List ByteArray)), (100000, .box [sq eI r1.2.1, .int .i64 r1.2.2])] ⟨Le.eq (by first | rfl | simp), (by first | exact Le.oslN rfl (by first | rfl | simp) | exact Le.refl _ | exact Le.eq (by first | rfl | simp)), Le.eq (by first | rfl | simp), Le.eq (by first | rfl | simp), trivial⟩ ⟨⟨_, rfl, LeO.refl _⟩, ⟨_, rfl, LeO.refl _⟩, trivial⟩ rfl (dom_of rfl) ?_
  exact (pilemake_Stream_LocatorList.loops p0_0 p0_1 k).2 r1.1 0 [] r1.2.1 r1.2.2 
/-! ### pileref1_LocatorRight: function 36 -/
mutual
def pileref1_LocatorRight.j10 : Nat → ByteArray → Nat → Int → Option (Bool)
  | 0, _, _, _ => Option.none
  | k + 1, a0, o20, x5j10 => (if 0 ≤ (((o20 : Nat) : Int) : Int) then (if (((o20 : Nat) : Int) : Int) < (a0.size : Int) then (if bt a0 (((o20 : Nat) : Int) : Int) < x5j10 then Option.some false else (if 0 ≤ (((o20 : Nat) : Int) : Int) then (if (((o20 : Nat) : Int) : Int) < (a0.size : Int) then (if bt a0 (((o20 : Nat) : Int) : Int) > bt (⟨#[114, 114, 57, 57, 120, 120]⟩ : ByteArray) (((o20 : Nat) : Int) : Int) then Option.some false else pileref1_LocatorRight.l0 k a0 (o20 + (Utf8.decode a0 o20).2)) else Option.none) else Option.none)) else Option.none) else Option.none)
def pileref1_LocatorRight.l0 : Nat → ByteArray → Nat → Option (Bool)
  | 0, _, _ => Option.none
  | k + 1, a0, o20 => (if o20 < a0.size then (if 0 ≤ (((o20 : Nat) : Int) : Int) then (if (((o20 : Nat) : Int) : Int) < ((⟨#[114, 114, 57, 57, 120, 120]⟩ : ByteArray).size : Int) then (if bt (⟨#[114, 114, 57, 57, 120, 120]⟩ : ByteArray) (((o20 : Nat) : Int) : Int) = 57 then pileref1_LocatorRight.j10 k a0 o20 48 else pileref1_LocatorRight.j10 k a0 o20 97) else Option.none) else Option.none) else Option.some true)
end
def pileref1_LocatorRight.f (k : Nat) (a0 : ByteArray) : Option (Bool) := (if (a0.size : Int) = 2 then pileref1_LocatorRight.l0 k a0 0 else (if (a0.size : Int) = 4 then pileref1_LocatorRight.l0 k a0 0 else (if (a0.size : Int) = 6 then pileref1_LocatorRight.l0 k a0 0 else Option.some false)))
theorem pileref1_LocatorRight.loops : ∀ k, (∀ (a0 : ByteArray) (o20 : Nat) (x5j10 : Int), RS (fam Tryz.f36 [10] [] [] (fun r : Bool => .bool r) (fun r => [])) (Func.reg Tryz.f36 10) ⟨ofT [(0, .str a0), (3, .int .i64 (((o20 : Nat) : Int) : Int)), (4, .int .u8 (bt (⟨#[114, 114, 57, 57, 120, 120]⟩ : ByteArray) (((o20 : Nat) : Int) : Int))), (5, .int .u8 x5j10), (20, .ref 20 0 0 0 0)], ofL [(20, .it a0 (o20 + (Utf8.decode a0 o20).2))]⟩ (pileref1_LocatorRight.j10 k a0 o20 x5j10)) ∧ (∀ (a0 : ByteArray) (o20 : Nat), RS (fam Tryz.f36 [10] [] [] (fun r : Bool => .bool r) (fun r => [])) (Func.head Tryz.f36 0) ⟨ofT [(0, .str a0), (20, .ref 20 0 0 0 0)], ofL [(20, .it a0 o20)]⟩ (pileref1_LocatorRight.l0 k a0 o20))
  | 0 => ⟨by intro _ _ _; simp only [pileref1_LocatorRight.j10]; exact RS.none, by intro _ _; simp only [pileref1_LocatorRight.l0]; exact RS.none⟩
  | k + 1 => by
    have ih := pileref1_LocatorRight.loops k
    refine ⟨?_, ?_⟩
    · intro a0 o20 x5j10
      simp only [pileref1_LocatorRight.j10]
      refine RS.region ?_
      refine RS.go ?_
      refine RT.br rfl (fun c3 => ?_) (fun c3 => RT.none)
      refine RT.br rfl (fun c4 => ?_) (fun c4 => RT.none)
      refine RT.br rfl (fun c8 => ?_) (fun c8 => ?_)
      · refine RT.brT rfl ?_
        refine RT.brT rfl ?_
        refine RT.brT rfl ?_
        refine RT.brT rfl ?_
        refine RT.brT rfl ?_
        refine RT.brT rfl ?_
        exact RT.done rfl rfl (Le.refl _) trivial rfl (dom0 rfl)
      · refine RT.brF rfl ?_
        refine RT.brF rfl ?_
        refine RT.br rfl (fun c5 => ?_) (fun c5 => RT.none)
        refine RT.br rfl (fun c6 => ?_) (fun c6 => RT.none)
        refine RT.brF rfl ?_
        refine RT.brF rfl ?_
        refine RT.brF rfl ?_
        refine RT.br rfl (fun c7 => ?_) (fun c7 => ?_)
        · exact RT.done rfl rfl (Le.refl _) trivial rfl (dom0 rfl)
        · refine RT.goto rfl ?_
          refine RS.weak [(0, .str a0), (20, .ref 20 0 0 0 0)] [(20, .it a0 (o20 + (Utf8.decode a0 o20).2))] ⟨Le.eq (by first | rfl | simp), Le.eq (by first | rfl | simp), trivial⟩ ⟨⟨_, rfl, LeO.refl _⟩, trivial⟩ rfl (dom0 rfl) ?_
          exact ih.2 a0 (o20 + (Utf8.decode a0 o20).2) 
    · intro a0 o20
      simp only [pileref1_LocatorRight.l0]
      refine RS.go ?_
      refine RT.br rfl (fun c20 => ?_) (fun c20 => ?_)
      · refine RT.brT rfl ?_
        refine RT.br rfl (fun c17 => ?_) (fun c17 => RT.none)
        refine RT.br rfl (fun c18 => ?_) (fun c18 => RT.none)
        refine RT.br rfl (fun c19 => ?_) (fun c19 => ?_)
        · refine RT.goto rfl ?_
          refine RS.weak [(0, .str a0), (3, .int .i64 (((o20 : Nat) : Int) : Int)), (4, .int .u8 (bt (⟨#[114, 114, 57, 57, 120, 120]⟩ : ByteArray) (((o20 : Nat) : Int) : Int))), (5, .int .u8 48), (20, .ref 20 0 0 0 0)] [(20, .it a0 (o20 + (Utf8.decode a0 o20).2))] ⟨Le.eq (by first | rfl | simp), Le.eq (by first | rfl | simp), Le.eq (by first | rfl | simp), Le.eq (by first | rfl | simp), Le.eq (by first | rfl | simp), trivial⟩ ⟨⟨_, rfl, LeO.refl _⟩, trivial⟩ rfl (dom0 rfl) ?_
          exact ih.1 a0 o20 48 
        · refine RT.goto rfl ?_
          refine RS.weak [(0, .str a0), (3, .int .i64 (((o20 : Nat) : Int) : Int)), (4, .int .u8 (bt (⟨#[114, 114, 57, 57, 120, 120]⟩ : ByteArray) (((o20 : Nat) : Int) : Int))), (5, .int .u8 97), (20, .ref 20 0 0 0 0)] [(20, .it a0 (o20 + (Utf8.decode a0 o20).2))] ⟨Le.eq (by first | rfl | simp), Le.eq (by first | rfl | simp), Le.eq (by first | rfl | simp), Le.eq (by first | rfl | simp), Le.eq (by first | rfl | simp), trivial⟩ ⟨⟨_, rfl, LeO.refl _⟩, trivial⟩ rfl (dom0 rfl) ?_
          exact ih.1 a0 o20 97 
      · refine RT.brF rfl ?_
        exact RT.done rfl rfl (Le.refl _) trivial rfl (dom0 rfl)
theorem pileref1_LocatorRight.ok (k : Nat) (a0 : ByteArray) (r : Bool) (h : pileref1_LocatorRight.f k a0 = some r) : Ct Tryz.prog B 36 [.str a0] (ofL []) (.bool r) (ofL []) := by
  refine Ct.of (Y := (fam Tryz.f36 [10] [] [] (fun r : Bool => .bool r) (fun r => []))) Tryz.func36 rfl Tryz.call36 rfl rfl ?_ r h
  unfold pileref1_LocatorRight.f
  refine RS.go ?_
  refine RT.brN rfl (fun c21 => ?_) (fun c21 => ?_)
  · refine RT.brF rfl ?_
    refine RT.brF rfl ?_
    refine RT.brF rfl ?_
    refine RT.brF rfl ?_
    refine RT.brF rfl ?_
    refine RT.brF rfl ?_
    refine RT.brF rfl ?_
    refine RT.brF rfl ?_
    refine RT.goto rfl ?_
    refine RS.weak [(0, .str a0), (20, .ref 20 0 0 0 0)] [(20, .it a0 0)] ⟨Le.eq (by first | rfl | simp), Le.eq (by first | rfl | simp), trivial⟩ ⟨⟨_, rfl, LeO.refl _⟩, trivial⟩ rfl (dom0 rfl) ?_
    exact (pileref1_LocatorRight.loops k).2 a0 0 
  · refine RT.brT rfl ?_
    refine RT.brT rfl ?_
    refine RT.brT rfl ?_
    refine RT.brN rfl (fun c16 => ?_) (fun c16 => ?_)
    · refine RT.brF rfl ?_
      refine RT.brF rfl ?_
      refine RT.brF rfl ?_
      refine RT.brF rfl ?_
      refine RT.goto rfl ?_
      refine RS.weak [(0, .str a0), (20, .ref 20 0 0 0 0)] [(20, .it a0 0)] ⟨Le.eq (by first | rfl | simp), Le.eq (by first | rfl | simp), trivial⟩ ⟨⟨_, rfl, LeO.refl _⟩, trivial⟩ rfl (dom0 rfl) ?_
      exact (pileref1_LocatorRight.loops k).2 a0 0 
    · refine RT.brT rfl ?_
      refine RT.brT rfl ?_
      refine RT.brT rfl ?_
      refine RT.brN rfl (fun c11 => ?_) (fun c11 => ?_)
      · refine RT.goto rfl ?_
        refine RS.weak [(0, .str a0), (20, .ref 20 0 0 0 0)] [(20, .it a0 0)] ⟨Le.eq (by first | rfl | simp), Le.eq (by first | rfl | simp), trivial⟩ ⟨⟨_, rfl, LeO.refl _⟩, trivial⟩ rfl (dom0 rfl) ?_
        exact (pileref1_LocatorRight.loops k).2 a0 0 
      · exact RT.done rfl rfl (Le.refl _) trivial rfl (dom0 rfl)
/-! ### pileref1_LocatorFault: function 10 -/
def pileref1_LocatorFault.f (k : Nat) (a0 : ByteArray) : Option (Int) := ((pileref1_LocatorRight.f k a0).bind fun r1 => (if r1 = true then Option.some 0 else Option.some 3))
theorem pileref1_LocatorFault.ok (k : Nat) (a0 : ByteArray) (r : Int) (h : pileref1_LocatorFault.f k a0 = some r) : Ct Tryz.prog B 10 [.str a0] (ofL []) (.int .i64 r) (ofL []) := by
  refine Ct.of (Y := (fam Tryz.f10 [] [] [] (fun r : Int => .int .i64 r) (fun r => []))) Tryz.func10 rfl Tryz.call10 rfl rfl ?_ r h
  unfold pileref1_LocatorFault.f
  refine RS.go ?_
  refine RT.call0 rfl (fun _ h => pileref1_LocatorRight.ok k a0 _ h) (LeL.eq rfl) (fun _ => rfl) (fun r1 => ?_)
  refine RS.go ?_
  refine RT.brBN rfl (fun c2 => ?_) (fun c2 => ?_)
  · exact RT.done rfl rfl (Le.refl _) trivial rfl (dom0 rfl)
  · exact RT.done rfl rfl (Le.refl _) trivial rfl (dom0 rfl)
/-! ### kit_Outside: function 37 -/
def kit_Outside.f (a0 : Int) (a1 : Int) (a2 : Int) : Option (Bool) := (if a0 < a1 then Option.some true else Option.some (decide (a0 > a2)))
theorem kit_Outside.ok (a0 : Int) (a1 : Int) (a2 : Int) (r : Bool) (h : kit_Outside.f a0 a1 a2 = some r) : Ct Tryz.prog B 37 [.int .i64 a0, .int .i64 a1, .int .i64 a2] (ofL []) (.bool r) (ofL []) := by
  refine Ct.of (Y := (fam Tryz.f37 [] [] [] (fun r : Bool => .bool r) (fun r => []))) Tryz.func37 rfl Tryz.call37 rfl rfl ?_ r h
  unfold kit_Outside.f
  refine RS.go ?_
  refine RT.br rfl (fun c1 => ?_) (fun c1 => ?_)
  · refine RT.brT rfl ?_
    refine RT.brT rfl ?_
    refine RT.brT rfl ?_
    exact RT.done rfl rfl (Le.refl _) trivial rfl (dom0 rfl)
  · refine RT.brF rfl ?_
    refine RT.brF rfl ?_
    refine RT.brF rfl ?_
    exact RT.done rfl rfl (Le.refl _) trivial rfl (dom0 rfl)
/-! ### place_CheckSite: function 11 -/
def place_CheckSite.f (a0_0 : Int) (a0_1 : Int) : Option (Int) := ((kit_Outside.f a0_0 (-324000) 324000).bind fun r1 => (if r1 = true then Option.some 1 else ((kit_Outside.f a0_1 (-648000) 647999).bind fun r2 => (if r2 = true then Option.some 1 else Option.some 0))))
theorem place_CheckSite.ok (a0_0 : Int) (a0_1 : Int) (r : Int) (h : place_CheckSite.f a0_0 a0_1 = some r) : Ct Tryz.prog B 11 [.agg [.int .i64 a0_0, .int .i64 a0_1]] (ofL []) (.int .i64 r) (ofL []) := by
  refine Ct.of (Y := (fam Tryz.f11 [] [] [] (fun r : Int => .int .i64 r) (fun r => []))) Tryz.func11 rfl Tryz.call11 rfl rfl ?_ r h
  unfold place_CheckSite.f
  refine RS.go ?_
  refine RT.call0 rfl (fun _ h => kit_Outside.ok a0_0 (-324000) 324000 _ h) (LeL.eq rfl) (fun _ => rfl) (fun r1 => ?_)
  refine RS.go ?_
  refine RT.brB rfl (fun c4 => ?_) (fun c4 => ?_)
  · refine RT.brT rfl ?_
    refine RT.brT rfl ?_
    refine RT.brT rfl ?_
    refine RT.brT rfl ?_
    exact RT.done rfl rfl (Le.refl _) trivial rfl (dom0 rfl)
  · refine RT.brF rfl ?_
    refine RT.brF rfl ?_
    refine RT.call0 rfl (fun _ h => kit_Outside.ok a0_1 (-648000) 647999 _ h) (LeL.eq rfl) (fun _ => rfl) (fun r2 => ?_)
    refine RS.go ?_
    refine RT.brF rfl ?_
    refine RT.brB rfl (fun c3 => ?_) (fun c3 => ?_)
    · exact RT.done rfl rfl (Le.refl _) trivial rfl (dom0 rfl)
    · exact RT.done rfl rfl (Le.refl _) trivial rfl (dom0 rfl)
/-! ### place_levels: function 38 -/
def place_levels.f : Option ((List (Int × Int × Int × Int))) := Option.some [(18, 97, 72000, 36000), (10, 48, 7200, 3600), (24, 97, 300, 150)]
theorem place_levels.ok (r : (List (Int × Int × Int × Int))) (h : place_levels.f  = some r) : Ct Tryz.prog B 38 [] (ofL []) (sq e_IIII r) (ofL []) := by
  refine Ct.of (Y := (fam Tryz.f38 [] [] [] (fun r : (List (Int × Int × Int × Int)) => sq e_IIII r) (fun r => []))) Tryz.func38 rfl Tryz.call38 rfl rfl ?_ r h
  unfold place_levels.f
  refine RS.go ?_
  refine RT.goto rfl ?_
  refine RS.slot 4 (sq e_IIII [(18, 97, 72000, 36000), (10, 48, 7200, 3600), (24, 97, 300, 150)]) (Le.lit (E := e_IIII) (l := [(18, 97, 72000, 36000), (10, 48, 7200, 3600), (24, 97, 300, 150)]) (cells_of rfl)) ?_
  refine RS.go ?_
  exact RT.done rfl rfl (Le.refl _) trivial rfl (dom0 rfl)
/-! ### place_IsLocator: function 12 -/
def place_IsLocator.k0 : List DK := [⟨[34, 44], [], [45], []⟩, ⟨[34], [], [44], []⟩, ⟨[34], [], [43], []⟩, ⟨[34], [], [42], []⟩, ⟨[34], [], [41], []⟩, ⟨[34], [], [40], []⟩, ⟨[34], [], [39], []⟩, ⟨[34], [], [38], []⟩, ⟨[34], [], [37], []⟩, ⟨[34], [], [36], []⟩, ⟨[34], [], [35], []⟩, ⟨[33], [], [34], []⟩, ⟨[30, 32], [], [33], []⟩, ⟨[31], [4], [32], []⟩, ⟨[4], [4], [31], []⟩, ⟨[28, 29], [], [30], []⟩, ⟨[3], [], [29], []⟩, ⟨[0], [], [28], []⟩]
def place_IsLocator.k1 : List Nat := [0, 0, 3, 0, 8, 31, 63, 127, 127, 511, 127, 1151, 4095, 8191, 127, 16511, 65535, 131071]
def place_IsLocator.k2 : List DK := [⟨[34, 44], [], [45], []⟩, ⟨[34, 41, 43], [], [44], []⟩, ⟨[34, 42], [4], [43], []⟩, ⟨[34, 4], [4], [42], []⟩, ⟨[34, 40], [], [41], []⟩, ⟨[34, 37, 39], [], [40], []⟩, ⟨[34, 38], [4], [39], []⟩, ⟨[34, 4], [4], [38], []⟩, ⟨[34, 35, 36], [], [37], []⟩, ⟨[34, 3], [], [36], []⟩, ⟨[34, 0], [], [35], []⟩, ⟨[33], [], [34], []⟩, ⟨[30, 32], [], [33], []⟩, ⟨[31], [4], [32], []⟩, ⟨[4], [4], [31], []⟩, ⟨[28, 29], [], [30], []⟩, ⟨[3], [], [29], []⟩, ⟨[0], [], [28], []⟩]
def place_IsLocator.l0 : Nat → ByteArray → Int → Option (Bool)
  | 0, _, _ => Option.none
  | k + 1, a0, x20 => (if x20 < (a0.size : Int) then (place_levels.f.bind fun r23 => (if 0 ≤ wrap64 (Int.tdiv x20 2) then (if wrap64 (Int.tdiv x20 2) < (r23.length : Int) then (if 0 ≤ x20 then (if x20 < (a0.size : Int) then (if bt a0 x20 < (rdE e_IIII r23 (wrap64 (Int.tdiv x20 2))).2.1 then Option.some false else (if 0 ≤ x20 then (if x20 < (a0.size : Int) then (if wrap64 (((bt a0 x20) - ((rdE e_IIII r23 (wrap64 (Int.tdiv x20 2))).2.1)) % 256) ≥ (rdE e_IIII r23 (wrap64 (Int.tdiv x20 2))).1 then Option.some false else place_IsLocator.l0 k a0 (wrap64 (x20 + 1))) else Option.none) else Option.none)) else Option.none) else Option.none) else Option.none) else Option.none)) else Option.some true)
def place_IsLocator.f (k : Nat) (a0 : ByteArray) : Option (Bool) := (if (a0.size : Int) = 2 then place_IsLocator.l0 k a0 0 else (if (a0.size : Int) = 4 then place_IsLocator.l0 k a0 0 else (if (a0.size : Int) = 6 then place_IsLocator.l0 k a0 0 else Option.some false)))
theorem place_IsLocator.loops : ∀ k, (∀ (a0 : ByteArray) (x20 : Int), RS (fam Tryz.f12 [] [] [] (fun r : Bool => .bool r) (fun r => [])) (Func.head Tryz.f12 0) ⟨ofT [(0, .str a0), (19, .int .i64 (a0.size : Int)), (20, .int .i64 x20)], ofL []⟩ (place_IsLocator.l0 k a0 x20))
  | 0 => by intro _ _; simp only [place_IsLocator.l0]; exact RS.none
  | k + 1 => by
    have ih := place_IsLocator.loops k
    · intro a0 x20
      simp only [place_IsLocator.l0]
      refine RS.go ?_
      refine RT.br rfl (fun c32 => ?_) (fun c32 => ?_)
      · refine RT.call0 rfl (fun _ h => place_levels.ok  _ h) (LeL.eq rfl) (fun _ => rfl) (fun r23 => ?_)
        refine RS.go ?_
        refine RT.brF rfl ?_
        refine RT.br rfl (fun c24 => ?_) (fun c24 => RT.none)
        refine RT.br rfl (fun c25 => ?_) (fun c25 => RT.none)
        refine RT.goto rfl ?_
        refine RS.draw rfl ?_
        refine RD.br rfl (fun c26 => ?_) (fun c26 => RD.none)
        refine RD.br rfl (fun c27 => ?_) (fun c27 => RD.none)
        refine RD.br rfl (fun c31 => ?_) (fun c31 => ?_)
        · refine RD.brT rfl ?_
          refine RD.brT rfl ?_
          refine RD.brT rfl ?_
          refine RD.brT rfl ?_
          refine RD.brT rfl ?_
          refine RD.brT rfl ?_
          refine RD.brT rfl ?_
          refine RD.brT rfl ?_
          refine RD.brT rfl ?_
          refine RD.brT rfl ?_
          refine RD.fin place_IsLocator.k0 place_IsLocator.k1 rfl rfl (by decide +kernel) ?_
          refine RS.go ?_
          refine RT.brT rfl ?_
          exact RT.done rfl rfl (Le.refl _) trivial rfl (dom0 rfl)
        · refine RD.brF rfl ?_
          refine RD.brF rfl ?_
          refine RD.br rfl (fun c28 => ?_) (fun c28 => RD.none)
          refine RD.br rfl (fun c29 => ?_) (fun c29 => RD.none)
          refine RD.brF rfl ?_
          refine RD.brF rfl ?_
          refine RD.brF rfl ?_
          refine RD.brF rfl ?_
          refine RD.brF rfl ?_
          refine RD.brF rfl ?_
          refine RD.brF rfl ?_
          refine RD.brF rfl ?_
          refine RD.fin place_IsLocator.k2 place_IsLocator.k1 rfl rfl (by decide +kernel) ?_
          refine RS.go ?_
          refine RT.br rfl (fun c30 => ?_) (fun c30 => ?_)
          · exact RT.done rfl rfl (Le.refl _) trivial rfl (dom0 rfl)
          · refine RT.goto rfl ?_
            refine RS.weak [(0, .str a0), (19, .int .i64 (a0.size : Int)), (20, .int .i64 (wrap64 (x20 + 1)))] [] ⟨Le.eq (by first | rfl | simp), Le.eq (by first | rfl | simp), Le.eq (by first | rfl | simp), trivial⟩ trivial rfl (dom0 rfl) ?_
            exact ih a0 (wrap64 (x20 + 1)) 
      · exact RT.done rfl rfl (Le.refl _) trivial rfl (dom0 rfl)
theorem place_IsLocator.ok (k : Nat) (a0 : ByteArray) (r : Bool) (h : place_IsLocator.f k a0 = some r) : Ct Tryz.prog B 12 [.str a0] (ofL []) (.bool r) (ofL []) := by
  refine Ct.of (Y := (fam Tryz.f12 [] [] [] (fun r : Bool => .bool r) (fun r => []))) Tryz.func12 rfl Tryz.call12 rfl rfl ?_ r h
  unfold place_IsLocator.f
  refine RS.go ?_
  refine RT.brN rfl (fun c33 => ?_) (fun c33 => ?_)
  · refine RT.brF rfl ?_
    refine RT.brF rfl ?_
    refine RT.brF rfl ?_
    refine RT.brF rfl ?_
    refine RT.brF rfl ?_
    refine RT.brF rfl ?_
    refine RT.brF rfl ?_
    refine RT.brF rfl ?_
    refine RT.goto rfl ?_
    refine RS.weak [(0, .str a0), (19, .int .i64 (a0.size : Int)), (20, .int .i64 0)] [] ⟨Le.eq (by first | rfl | simp), Le.eq (by first | rfl | simp), Le.eq (by first | rfl | simp), trivial⟩ trivial rfl (dom0 rfl) ?_
    exact place_IsLocator.loops k a0 0 
  · refine RT.brT rfl ?_
    refine RT.brT rfl ?_
    refine RT.brT rfl ?_
    refine RT.brN rfl (fun c22 => ?_) (fun c22 => ?_)
    · refine RT.brF rfl ?_
      refine RT.brF rfl ?_
      refine RT.brF rfl ?_
      refine RT.brF rfl ?_
      refine RT.goto rfl ?_
      refine RS.weak [(0, .str a0), (19, .int .i64 (a0.size : Int)), (20, .int .i64 0)] [] ⟨Le.eq (by first | rfl | simp), Le.eq (by first | rfl | simp), Le.eq (by first | rfl | simp), trivial⟩ trivial rfl (dom0 rfl) ?_
      exact place_IsLocator.loops k a0 0 
    · refine RT.brT rfl ?_
      refine RT.brT rfl ?_
      refine RT.brT rfl ?_
      refine RT.brN rfl (fun c11 => ?_) (fun c11 => ?_)
      · refine RT.goto rfl ?_
        refine RS.weak [(0, .str a0), (19, .int .i64 (a0.size : Int)), (20, .int .i64 0)] [] ⟨Le.eq (by first | rfl | simp), Le.eq (by first | rfl | simp), Le.eq (by first | rfl | simp), trivial⟩ trivial rfl (dom0 rfl) ?_
        exact place_IsLocator.loops k a0 0 
      · exact RT.done rfl rfl (Le.refl _) trivial rfl (dom0 rfl)
/-! ### place_area: function 39 -/
def place_area.k0 : List DK := [⟨[46, 45], [3], [], [3]⟩, ⟨[3], [3], [46], []⟩, ⟨[33, 44], [], [45], []⟩, ⟨[41, 43], [], [44], []⟩, ⟨[42], [4], [43], []⟩, ⟨[4], [4], [42], []⟩, ⟨[40], [], [41], []⟩, ⟨[37, 39], [], [40], []⟩, ⟨[38], [4], [39], []⟩, ⟨[4], [4], [38], []⟩, ⟨[34, 36], [], [37], []⟩, ⟨[35], [], [36], []⟩, ⟨[5], [], [35], []⟩, ⟨[0], [], [34], []⟩, ⟨[32], [3], [33], []⟩, ⟨[3], [3], [32], []⟩]
def place_area.k1 : List Nat := [0, 1, 0, 0, 8, 28, 0, 64, 252, 508, 0, 1024, 4092, 8191, 16383, 32767]
def place_area.k2 : List DK := [⟨[31, 30], [3], [], [3]⟩, ⟨[3], [3], [31], []⟩, ⟨[19, 29], [], [30], []⟩, ⟨[26, 28], [], [29], []⟩, ⟨[27], [4], [28], []⟩, ⟨[4], [4], [27], []⟩, ⟨[25], [], [26], []⟩, ⟨[22, 24], [], [25], []⟩, ⟨[23], [4], [24], []⟩, ⟨[4], [4], [23], []⟩, ⟨[20, 21], [], [22], []⟩, ⟨[5], [], [21], []⟩, ⟨[0], [], [20], []⟩, ⟨[18], [3], [19], []⟩, ⟨[3], [3], [18], []⟩]
def place_area.k3 : List Nat := [0, 1, 0, 0, 12, 0, 32, 124, 252, 0, 512, 2044, 4095, 8191, 16383]
def place_area.l0 : Nat → ByteArray → Int → Int → Int → Int → Int → Int → Int → Option (Int × Int × Int × Int)
  | 0, _, _, _, _, _, _, _, _ => Option.none
  | k + 1, a0, x5, o3_0, o3_1, o4_0, o4_1, o4_2, o4_3 => (if x5 < (a0.size : Int) then (place_levels.f.bind fun r1 => (if 0 ≤ wrap64 (Int.tdiv x5 2) then (if wrap64 (Int.tdiv x5 2) < (r1.length : Int) then (if 0 ≤ x5 then (if x5 < (a0.size : Int) then (if 0 ≤ wrap64 (x5 + 1) then (if wrap64 (x5 + 1) < (a0.size : Int) then place_area.l0 k a0 (wrap64 (x5 + 2)) (wrap64 (o3_0 + (wrap64 ((wrap64 (((bt a0 (wrap64 (x5 + 1))) - ((rdE e_IIII r1 (wrap64 (Int.tdiv x5 2))).2.1)) % 256)) * ((rdE e_IIII r1 (wrap64 (Int.tdiv x5 2))).2.2.2))))) (wrap64 (o3_1 + (wrap64 ((wrap64 (((bt a0 x5) - ((rdE e_IIII r1 (wrap64 (Int.tdiv x5 2))).2.1)) % 256)) * ((rdE e_IIII r1 (wrap64 (Int.tdiv x5 2))).2.2.1))))) ((rdE e_IIII r1 (wrap64 (Int.tdiv x5 2))).1) ((rdE e_IIII r1 (wrap64 (Int.tdiv x5 2))).2.1) ((rdE e_IIII r1 (wrap64 (Int.tdiv x5 2))).2.2.1) ((rdE e_IIII r1 (wrap64 (Int.tdiv x5 2))).2.2.2) else Option.none) else Option.none) else Option.none) else Option.none) else Option.none) else Option.none)) else Option.some (o3_0, o3_1, wrap64 (o3_0 + o4_3), wrap64 (o3_1 + o4_2)))
def place_area.f (k : Nat) (a0 : ByteArray) : Option (Int × Int × Int × Int) := place_area.l0 k a0 0 (-324000) (-648000) 0 0 0 0
theorem place_area.loops : ∀ k, (∀ (a0 : ByteArray) (x5 : Int) (o3_0 : Int) (o3_1 : Int) (o4_0 : Int) (o4_1 : Int) (o4_2 : Int) (o4_3 : Int), RS (fam Tryz.f39 [] [] [] (fun r : Int × Int × Int × Int => .agg [.int .i64 r.1, .int .i64 r.2.1, .int .i64 r.2.2.1, .int .i64 r.2.2.2]) (fun r => [])) (Func.head Tryz.f39 0) ⟨ofT [(0, .str a0), (2, .ref 2 0 0 0 4), (3, .ref 3 0 0 0 2), (4, .ref 4 0 0 0 4), (5, .int .i64 x5)], ofL [(2, .box [.int .i64 0, .int .i64 0, .int .i64 0, .int .i64 0]), (3, .box [.int .i64 o3_0, .int .i64 o3_1]), (4, .box [.int .i64 o4_0, .int .u8 o4_1, .int .i64 o4_2, .int .i64 o4_3])]⟩ (place_area.l0 k a0 x5 o3_0 o3_1 o4_0 o4_1 o4_2 o4_3))
  | 0 => by intro _ _ _ _ _ _ _ _; simp only [place_area.l0]; exact RS.none
  | k + 1 => by
    have ih := place_area.loops k
    · intro a0 x5 o3_0 o3_1 o4_0 o4_1 o4_2 o4_3
      simp only [place_area.l0]
      refine RS.go ?_
      refine RT.br rfl (fun c8 => ?_) (fun c8 => ?_)
      · refine RT.call0 rfl (fun _ h => place_levels.ok  _ h) (LeL.eq rfl) (fun _ => rfl) (fun r1 => ?_)
        refine RS.go ?_
        refine RT.brF rfl ?_
        refine RT.br rfl (fun c2 => ?_) (fun c2 => RT.none)
        refine RT.br rfl (fun c3 => ?_) (fun c3 => RT.none)
        refine RT.goto rfl ?_
        refine RS.draw rfl ?_
        refine RD.br rfl (fun c4 => ?_) (fun c4 => RD.none)
        refine RD.br rfl (fun c5 => ?_) (fun c5 => RD.none)
        refine RD.fin place_area.k2 place_area.k3 rfl rfl (by decide +kernel) ?_
        refine RS.go ?_
        refine RT.goto rfl ?_
        refine RS.draw rfl ?_
        refine RD.br rfl (fun c6 => ?_) (fun c6 => RD.none)
        refine RD.br rfl (fun c7 => ?_) (fun c7 => RD.none)
        refine RD.fin place_area.k0 place_area.k1 rfl rfl (by decide +kernel) ?_
        refine RS.go ?_
        refine RT.goto rfl ?_
        refine RS.weak [(0, .str a0), (2, .ref 2 0 0 0 4), (3, .ref 3 0 0 0 2), (4, .ref 4 0 0 0 4), (5, .int .i64 (wrap64 (x5 + 2)))] [(2, .box [.int .i64 0, .int .i64 0, .int .i64 0, .int .i64 0]), (3, .box [.int .i64 (wrap64 (o3_0 + (wrap64 ((wrap64 (((bt a0 (wrap64 (x5 + 1))) - ((rdE e_IIII r1 (wrap64 (Int.tdiv x5 2))).2.1)) % 256)) * ((rdE e_IIII r1 (wrap64 (Int.tdiv x5 2))).2.2.2))))), .int .i64 (wrap64 (o3_1 + (wrap64 ((wrap64 (((bt a0 x5) - ((rdE e_IIII r1 (wrap64 (Int.tdiv x5 2))).2.1)) % 256)) * ((rdE e_IIII r1 (wrap64 (Int.tdiv x5 2))).2.2.1)))))]), (4, .box [.int .i64 ((rdE e_IIII r1 (wrap64 (Int.tdiv x5 2))).1), .int .u8 ((rdE e_IIII r1 (wrap64 (Int.tdiv x5 2))).2.1), .int .i64 ((rdE e_IIII r1 (wrap64 (Int.tdiv x5 2))).2.2.1), .int .i64 ((rdE e_IIII r1 (wrap64 (Int.tdiv x5 2))).2.2.2)])] ⟨Le.eq (by first | rfl | simp), Le.eq (by first | rfl | simp), Le.eq (by first | rfl | simp), Le.eq (by first | rfl | simp), Le.eq (by first | rfl | simp), trivial⟩ ⟨⟨_, rfl, LeO.refl _⟩, ⟨_, rfl, LeO.refl _⟩, ⟨_, rfl, LeO.refl _⟩, trivial⟩ rfl (dom0 rfl) ?_
        exact ih a0 (wrap64 (x5 + 2)) (wrap64 (o3_0 + (wrap64 ((wrap64 (((bt a0 (wrap64 (x5 + 1))) - ((rdE e_IIII r1 (wrap64 (Int.tdiv x5 2))).2.1)) % 256)) * ((rdE e_IIII r1 (wrap64 (Int.tdiv x5 2))).2.2.2))))) (wrap64 (o3_1 + (wrap64 ((wrap64 (((bt a0 x5) - ((rdE e_IIII r1 (wrap64 (Int.tdiv x5 2))).2.1)) % 256)) * ((rdE e_IIII r1 (wrap64 (Int.tdiv x5 2))).2.2.1))))) ((rdE e_IIII r1 (wrap64 (Int.tdiv x5 2))).1) ((rdE e_IIII r1 (wrap64 (Int.tdiv x5 2))).2.1) ((rdE e_IIII r1 (wrap64 (Int.tdiv x5 2))).2.2.1) ((rdE e_IIII r1 (wrap64 (Int.tdiv x5 2))).2.2.2) 
      · exact RT.done rfl rfl (Le.refl _) trivial rfl (dom0 rfl)
theorem place_area.ok (k : Nat) (a0 : ByteArray) (r : Int × Int × Int × Int) (h : place_area.f k a0 = some r) : Ct Tryz.prog B 39 [.str a0] (ofL []) (.agg [.int .i64 r.1, .int .i64 r.2.1, .int .i64 r.2.2.1, .int .i64 r.2.2.2]) (ofL []) := by
  refine Ct.of (Y := (fam Tryz.f39 [] [] [] (fun r : Int × Int × Int × Int => .agg [.int .i64 r.1, .int .i64 r.2.1, .int .i64 r.2.2.1, .int .i64 r.2.2.2]) (fun r => []))) Tryz.func39 rfl Tryz.call39 rfl rfl ?_ r h
  unfold place_area.f
  refine RS.go ?_
  refine RT.goto rfl ?_
  refine RS.weak [(0, .str a0), (2, .ref 2 0 0 0 4), (3, .ref 3 0 0 0 2), (4, .ref 4 0 0 0 4), (5, .int .i64 0)] [(2, .box [.int .i64 0, .int .i64 0, .int .i64 0, .int .i64 0]), (3, .box [.int .i64 (-324000), .int .i64 (-648000)]), (4, .box [.int .i64 0, .int .u8 0, .int .i64 0, .int .i64 0])] ⟨Le.eq (by first | rfl | simp), Le.eq (by first | rfl | simp), Le.eq (by first | rfl | simp), Le.eq (by first | rfl | simp), Le.eq (by first | rfl | simp), trivial⟩ ⟨⟨_, rfl, LeO.refl _⟩, ⟨_, rfl, LeO.refl _⟩, ⟨_, rfl, LeO.refl _⟩, trivial⟩ rfl (dom0 rfl) ?_
  exact place_area.loops k a0 0 (-324000) (-648000) 0 0 0 0 
/-! ### place_AreaOf: function 13 -/
def place_AreaOf.f (k : Nat) (a0 : ByteArray) : Option (Int × Int × Int × Int × Int) := ((place_IsLocator.f k a0).bind fun r1 => (if r1 = true then ((place_area.f k a0).bind fun r2 => Option.some (r2.1, r2.2.1, r2.2.2.1, r2.2.2.2, 0)) else Option.some (0, 0, 0, 0, 3)))
theorem place_AreaOf.ok (k : Nat) (a0 : ByteArray) (r : Int × Int × Int × Int × Int) (h : place_AreaOf.f k a0 = some r) : Ct Tryz.prog B 13 [.str a0] (ofL []) (.tup [.agg [.int .i64 r.1, .int .i64 r.2.1, .int .i64 r.2.2.1, .int .i64 r.2.2.2.1], .int .i64 r.2.2.2.2]) (ofL []) := by
  refine Ct.of (Y := (fam Tryz.f13 [] [] [] (fun r : Int × Int × Int × Int × Int => .tup [.agg [.int .i64 r.1, .int .i64 r.2.1, .int .i64 r.2.2.1, .int .i64 r.2.2.2.1], .int .i64 r.2.2.2.2]) (fun r => []))) Tryz.func13 rfl Tryz.call13 rfl rfl ?_ r h
  unfold place_AreaOf.f
  refine RS.go ?_
  refine RT.call0 rfl (fun _ h => place_IsLocator.ok k a0 _ h) (LeL.eq rfl) (fun _ => rfl) (fun r1 => ?_)
  refine RS.go ?_
  refine RT.brBN rfl (fun c3 => ?_) (fun c3 => ?_)
  · refine RT.call0 rfl (fun _ h => place_area.ok k a0 _ h) (LeL.eq rfl) (fun _ => rfl) (fun r2 => ?_)
    refine RS.go ?_
    exact RT.done rfl rfl (Le.tup (LeL.cons (Le.refl _) (LeL.cons (Le.refl _) (LeL.nil)))) trivial rfl (dom0 rfl)
  · exact RT.done rfl rfl (Le.tup (LeL.cons (Le.refl _) (LeL.cons (Le.refl _) (LeL.nil)))) trivial rfl (dom0 rfl)
/-! ### place_middle: function 40 -/
def place_middle.f (k : Nat) (a0 : ByteArray) : Option (Int × Int) := ((place_area.f k a0).bind fun r1 => Option.some (wrap64 (r1.1 + (wrap64 (Int.tdiv (wrap64 (r1.2.2.1 - r1.1)) 2))), wrap64 (r1.2.1 + (wrap64 (Int.tdiv (wrap64 (r1.2.2.2 - r1.2.1)) 2)))))
theorem place_middle.ok (k : Nat) (a0 : ByteArray) (r : Int × Int) (h : place_middle.f k a0 = some r) : Ct Tryz.prog B 40 [.str a0] (ofL []) (.agg [.int .i64 r.1, .int .i64 r.2]) (ofL []) := by
  refine Ct.of (Y := (fam Tryz.f40 [] [] [] (fun r : Int × Int => .agg [.int .i64 r.1, .int .i64 r.2]) (fun r => []))) Tryz.func40 rfl Tryz.call40 rfl rfl ?_ r h
  unfold place_middle.f
  refine RS.go ?_
  refine RT.call0 rfl (fun _ h => place_area.ok k a0 _ h) (LeL.eq rfl) (fun _ => rfl) (fun r1 => ?_)
  refine RS.go ?_
  refine RT.brF rfl ?_
  refine RT.brF rfl ?_
  exact RT.done rfl rfl (Le.refl _) trivial rfl (dom0 rfl)
/-! ### place_Middle: function 14 -/
def place_Middle.f (k : Nat) (a0 : ByteArray) : Option (Int × Int × Int) := ((place_IsLocator.f k a0).bind fun r1 => (if r1 = true then ((place_middle.f k a0).bind fun r2 => Option.some (r2.1, r2.2, 0)) else Option.some (0, 0, 3)))
theorem place_Middle.ok (k : Nat) (a0 : ByteArray) (r : Int × Int × Int) (h : place_Middle.f k a0 = some r) : Ct Tryz.prog B 14 [.str a0] (ofL []) (.tup [.agg [.int .i64 r.1, .int .i64 r.2.1], .int .i64 r.2.2]) (ofL []) := by
  refine Ct.of (Y := (fam Tryz.f14 [] [] [] (fun r : Int × Int × Int => .tup [.agg [.int .i64 r.1, .int .i64 r.2.1], .int .i64 r.2.2]) (fun r => []))) Tryz.func14 rfl Tryz.call14 rfl rfl ?_ r h
  unfold place_Middle.f
  refine RS.go ?_
  refine RT.call0 rfl (fun _ h => place_IsLocator.ok k a0 _ h) (LeL.eq rfl) (fun _ => rfl) (fun r1 => ?_)
  refine RS.go ?_
  refine RT.brBN rfl (fun c3 => ?_) (fun c3 => ?_)
  · refine RT.call0 rfl (fun _ h => place_middle.ok k a0 _ h) (LeL.eq rfl) (fun _ => rfl) (fun r2 => ?_)
    refine RS.go ?_
    exact RT.done rfl rfl (Le.tup (LeL.cons (Le.refl _) (LeL.cons (Le.refl _) (LeL.nil)))) trivial rfl (dom0 rfl)
  · exact RT.done rfl rfl (Le.tup (LeL.cons (Le.refl _) (LeL.cons (Le.refl _) (LeL.nil)))) trivial rfl (dom0 rfl)
/-! ### place_around: function 41 -/
def place_around.f (a0 : Int) : Option (Int) := Option.some (wrap64 ((Int.tmod (wrap64 ((Int.tmod (wrap64 (a0 + 648000)) 1296000) + 1296000)) 1296000) - 648000))
theorem place_around.ok (a0 : Int) (r : Int) (h : place_around.f a0 = some r) : Ct Tryz.prog B 41 [.int .i64 a0] (ofL []) (.int .i64 r) (ofL []) := by
  refine Ct.of (Y := (fam Tryz.f41 [] [] [] (fun r : Int => .int .i64 r) (fun r => []))) Tryz.func41 rfl Tryz.call41 rfl rfl ?_ r h
  unfold place_around.f
  refine RS.go ?_
  refine RT.brF rfl ?_
  refine RT.brF rfl ?_
  exact RT.done rfl rfl (Le.refl _) trivial rfl (dom0 rfl)
/-! ### math_bits_Len32: function 80 -/
mutual
def math_bits_Len32.j7 : Nat → Int → Int → Option (Int)
  | 0, _, _ => Option.none
  | k + 1, x0j7, x2j7 => (if 0 ≤ (x0j7) % 256 then (if (x0j7) % 256 < (str_0.size : Int) then Option.some (wrap64 (x2j7 + (wrap64 (bt str_0 ((x0j7) % 256))))) else Option.none) else Option.none)
def math_bits_Len32.j4 : Nat → Int → Int → Option (Int)
  | 0, _, _ => Option.none
  | k + 1, x0j4, x2j4 => (if x0j4 ≥ 256 then math_bits_Len32.j7 k (Int.fdiv x0j4 (2 ^ (min (Int.toNat 8) 32))) (wrap64 (x2j4 + 8)) else math_bits_Len32.j7 k x0j4 x2j4)
end
def math_bits_Len32.f (k : Nat) (a0 : Int) : Option (Int) := (if a0 ≥ 65536 then math_bits_Len32.j4 k (Int.fdiv a0 (2 ^ (min (Int.toNat 16) 32))) 16 else math_bits_Len32.j4 k a0 0)
theorem math_bits_Len32.loops : ∀ k, (∀ (x0j7 : Int) (x2j7 : Int), RS (fam Tryz.f80 [4, 7] [] [] (fun r : Int => .int .i64 r) (fun r => [])) (Func.reg Tryz.f80 7) ⟨ofT [(0, .int .u32 x0j7), (2, .int .i64 x2j7)], ofL []⟩ (math_bits_Len32.j7 k x0j7 x2j7)) ∧ (∀ (x0j4 : Int) (x2j4 : Int), RS (fam Tryz.f80 [4, 7] [] [] (fun r : Int => .int .i64 r) (fun r => [])) (Func.reg Tryz.f80 4) ⟨ofT [(0, .int .u32 x0j4), (2, .int .i64 x2j4)], ofL []⟩ (math_bits_Len32.j4 k x0j4 x2j4))
  | 0 => ⟨by intro _ _; simp only [math_bits_Len32.j7]; exact RS.none, by intro _ _; simp only [math_bits_Len32.j4]; exact RS.none⟩
  | k + 1 => by
    have ih := math_bits_Len32.loops k
    refine ⟨?_, ?_⟩
    · intro x0j7 x2j7
      simp only [math_bits_Len32.j7]
      refine RS.region ?_
      refine RS.go ?_
      refine RT.br rfl (fun c1 => ?_) (fun c1 => RT.none)
      refine RT.br rfl (fun c2 => ?_) (fun c2 => RT.none)
      exact RT.done rfl rfl (Le.refl _) trivial rfl (dom0 rfl)
    · intro x0j4 x2j4
      simp only [math_bits_Len32.j4]
      refine RS.region ?_
      refine RS.go ?_
      refine RT.br rfl (fun c3 => ?_) (fun c3 => ?_)
      · refine RT.brF rfl ?_
        refine RT.goto rfl ?_
        refine RS.weak [(0, .int .u32 (Int.fdiv x0j4 (2 ^ (min (Int.toNat 8) 32)))), (2, .int .i64 (wrap64 (x2j4 + 8)))] [] ⟨Le.eq (by first | rfl | simp), Le.eq (by first | rfl | simp), trivial⟩ trivial rfl (dom0 rfl) ?_
        exact ih.1 (Int.fdiv x0j4 (2 ^ (min (Int.toNat 8) 32))) (wrap64 (x2j4 + 8)) 
      · refine RT.goto rfl ?_
        refine RS.weak [(0, .int .u32 x0j4), (2, .int .i64 x2j4)] [] ⟨Le.eq (by first | rfl | simp), Le.eq (by first | rfl | simp), trivial⟩ trivial rfl (dom0 rfl) ?_
        exact ih.1 x0j4 x2j4 
theorem math_bits_Len32.ok (k : Nat) (a0 : Int) (r : Int) (h : math_bits_Len32.f k a0 = some r) : Ct Tryz.prog B 80 [.int .u32 a0] (ofL []) (.int .i64 r) (ofL []) := by
  refine Ct.of (Y := (fam Tryz.f80 [4, 7] [] [] (fun r : Int => .int .i64 r) (fun r => []))) Tryz.func80 rfl Tryz.call80 rfl rfl ?_ r h
  unfold math_bits_Len32.f
  refine RS.go ?_
  refine RT.br rfl (fun c4 => ?_) (fun c4 => ?_)
  · refine RT.brF rfl ?_
    refine RT.goto rfl ?_
    refine RS.weak [(0, .int .u32 (Int.fdiv a0 (2 ^ (min (Int.toNat 16) 32)))), (2, .int .i64 16)] [] ⟨Le.eq (by first | rfl | simp), Le.eq (by first | rfl | simp), trivial⟩ trivial rfl (dom0 rfl) ?_
    exact (math_bits_Len32.loops k).2 (Int.fdiv a0 (2 ^ (min (Int.toNat 16) 32))) 16 
  · refine RT.goto rfl ?_
    refine RS.weak [(0, .int .u32 a0), (2, .int .i64 0)] [] ⟨Le.eq (by first | rfl | simp), Le.eq (by first | rfl | simp), trivial⟩ trivial rfl (dom0 rfl) ?_
    exact (math_bits_Len32.loops k).2 a0 0 
/-! ### math_bits_Len64: function 81 -/
mutual
def math_bits_Len64.j10 : Nat → Int → Int → Option (Int)
  | 0, _, _ => Option.none
  | k + 1, x0j10, x2j10 => (if 0 ≤ (x0j10) % 256 then (if (x0j10) % 256 < (str_0.size : Int) then Option.some (wrap64 (x2j10 + (wrap64 (bt str_0 ((x0j10) % 256))))) else Option.none) else Option.none)
def math_bits_Len64.j7 : Nat → Int → Int → Option (Int)
  | 0, _, _ => Option.none
  | k + 1, x0j7, x2j7 => (if x0j7 ≥ 256 then math_bits_Len64.j10 k (Int.fdiv x0j7 (2 ^ (min (Int.toNat 8) 64))) (wrap64 (x2j7 + 8)) else math_bits_Len64.j10 k x0j7 x2j7)
def math_bits_Len64.j4 : Nat → Int → Int → Option (Int)
  | 0, _, _ => Option.none
  | k + 1, x0j4, x2j4 => (if x0j4 ≥ 65536 then math_bits_Len64.j7 k (Int.fdiv x0j4 (2 ^ (min (Int.toNat 16) 64))) (wrap64 (x2j4 + 16)) else math_bits_Len64.j7 k x0j4 x2j4)
end
def math_bits_Len64.f (k : Nat) (a0 : Int) : Option (Int) := (if a0 ≥ 4294967296 then math_bits_Len64.j4 k (Int.fdiv a0 (2 ^ (min (Int.toNat 32) 64))) 32 else math_bits_Len64.j4 k a0 0)
theorem math_bits_Len64.loops : ∀ k, (∀ (x0j10 : Int) (x2j10 : Int), RS (fam Tryz.f81 [4, 7, 10] [] [] (fun r : Int => .int .i64 r) (fun r => [])) (Func.reg Tryz.f81 10) ⟨ofT [(0, .int .u64 x0j10), (2, .int .i64 x2j10)], ofL []⟩ (math_bits_Len64.j10 k x0j10 x2j10)) ∧ (∀ (x0j7 : Int) (x2j7 : Int), RS (fam Tryz.f81 [4, 7, 10] [] [] (fun r : Int => .int .i64 r) (fun r => [])) (Func.reg Tryz.f81 7) ⟨ofT [(0, .int .u64 x0j7), (2, .int .i64 x2j7)], ofL []⟩ (math_bits_Len64.j7 k x0j7 x2j7)) ∧ (∀ (x0j4 : Int) (x2j4 : Int), RS (fam Tryz.f81 [4, 7, 10] [] [] (fun r : Int => .int .i64 r) (fun r => [])) (Func.reg Tryz.f81 4) ⟨ofT [(0, .int .u64 x0j4), (2, .int .i64 x2j4)], ofL []⟩ (math_bits_Len64.j4 k x0j4 x2j4))
  | 0 => ⟨by intro _ _; simp only [math_bits_Len64.j10]; exact RS.none, by intro _ _; simp only [math_bits_Len64.j7]; exact RS.none, by intro _ _; simp only [math_bits_Len64.j4]; exact RS.none⟩
  | k + 1 => by
    have ih := math_bits_Len64.loops k
    refine ⟨?_, ?_, ?_⟩
    · intro x0j10 x2j10
      simp only [math_bits_Len64.j10]
      refine RS.region ?_
      refine RS.go ?_
      refine RT.br rfl (fun c1 => ?_) (fun c1 => RT.none)
      refine RT.br rfl (fun c2 => ?_) (fun c2 => RT.none)
      exact RT.done rfl rfl (Le.refl _) trivial rfl (dom0 rfl)
    · intro x0j7 x2j7
      simp only [math_bits_Len64.j7]
      refine RS.region ?_
      refine RS.go ?_
      refine RT.br rfl (fun c3 => ?_) (fun c3 => ?_)
      · refine RT.brF rfl ?_
        refine RT.goto rfl ?_
        refine RS.weak [(0, .int .u64 (Int.fdiv x0j7 (2 ^ (min (Int.toNat 8) 64)))), (2, .int .i64 (wrap64 (x2j7 + 8)))] [] ⟨Le.eq (by first | rfl | simp), Le.eq (by first | rfl | simp), trivial⟩ trivial rfl (dom0 rfl) ?_
        exact ih.1 (Int.fdiv x0j7 (2 ^ (min (Int.toNat 8) 64))) (wrap64 (x2j7 + 8)) 
      · refine RT.goto rfl ?_
        refine RS.weak [(0, .int .u64 x0j7), (2, .int .i64 x2j7)] [] ⟨Le.eq (by first | rfl | simp), Le.eq (by first | rfl | simp), trivial⟩ trivial rfl (dom0 rfl) ?_
        exact ih.1 x0j7 x2j7 
    · intro x0j4 x2j4
      simp only [math_bits_Len64.j4]
      refine RS.region ?_
      refine RS.go ?_
      refine RT.br rfl (fun c4 => ?_) (fun c4 => ?_)
      · refine RT.brF rfl ?_
        refine RT.goto rfl ?_
        refine RS.weak [(0, .int .u64 (Int.fdiv x0j4 (2 ^ (min (Int.toNat 16) 64)))), (2, .int .i64 (wrap64 (x2j4 + 16)))] [] ⟨Le.eq (by first | rfl | simp), Le.eq (by first | rfl | simp), trivial⟩ trivial rfl (dom0 rfl) ?_
        exact ih.2.1 (Int.fdiv x0j4 (2 ^ (min (Int.toNat 16) 64))) (wrap64 (x2j4 + 16)) 
      · refine RT.goto rfl ?_
        refine RS.weak [(0, .int .u64 x0j4), (2, .int .i64 x2j4)] [] ⟨Le.eq (by first | rfl | simp), Le.eq (by first | rfl | simp), trivial⟩ trivial rfl (dom0 rfl) ?_
        exact ih.2.1 x0j4 x2j4 
theorem math_bits_Len64.ok (k : Nat) (a0 : Int) (r : Int) (h : math_bits_Len64.f k a0 = some r) : Ct Tryz.prog B 81 [.int .u64 a0] (ofL []) (.int .i64 r) (ofL []) := by
  refine Ct.of (Y := (fam Tryz.f81 [4, 7, 10] [] [] (fun r : Int => .int .i64 r) (fun r => []))) Tryz.func81 rfl Tryz.call81 rfl rfl ?_ r h
  unfold math_bits_Len64.f
  refine RS.go ?_
  refine RT.br rfl (fun c5 => ?_) (fun c5 => ?_)
  · refine RT.brF rfl ?_
    refine RT.goto rfl ?_
    refine RS.weak [(0, .int .u64 (Int.fdiv a0 (2 ^ (min (Int.toNat 32) 64)))), (2, .int .i64 32)] [] ⟨Le.eq (by first | rfl | simp), Le.eq (by first | rfl | simp), trivial⟩ trivial rfl (dom0 rfl) ?_
    exact (math_bits_Len64.loops k).2.2 (Int.fdiv a0 (2 ^ (min (Int.toNat 32) 64))) 32 
  · refine RT.goto rfl ?_
    refine RS.weak [(0, .int .u64 a0), (2, .int .i64 0)] [] ⟨Le.eq (by first | rfl | simp), Le.eq (by first | rfl | simp), trivial⟩ trivial rfl (dom0 rfl) ?_
    exact (math_bits_Len64.loops k).2.2 a0 0 
/-! ### math_bits_Len: function 61 -/
def math_bits_Len.f (k : Nat) (a0 : Int) : Option (Int) := ((math_bits_Len64.f k a0).bind fun r1 => Option.some r1)
theorem math_bits_Len.ok (k : Nat) (a0 : Int) (r : Int) (h : math_bits_Len.f k a0 = some r) : Ct Tryz.prog B 61 [.int .u64 a0] (ofL []) (.int .i64 r) (ofL []) := by
  refine Ct.of (Y := (fam Tryz.f61 [] [] [] (fun r : Int => .int .i64 r) (fun r => []))) Tryz.func61 rfl Tryz.call61 rfl rfl ?_ r h
  unfold math_bits_Len.f
  refine RS.go ?_
  refine RT.brF rfl ?_
  refine RT.call0 rfl (fun _ h => math_bits_Len64.ok k a0 _ h) (LeL.eq rfl) (fun _ => rfl) (fun r1 => ?_)
  refine RS.go ?_
  exact RT.done rfl rfl (Le.refl _) trivial rfl (dom0 rfl)
/-! ### place_Beside_1: function 43 -/
def place_Beside_1.f (a0_0 : Int) (a0_1 : Int) (a1_0 : Int) (a1_1 : Int) : Option (Int) := (if a0_0 = a1_0 then Option.some (wrap64 (a0_1 - a1_1)) else Option.some (wrap64 (a0_0 - a1_0)))
theorem place_Beside_1.ok (a0_0 : Int) (a0_1 : Int) (a1_0 : Int) (a1_1 : Int) (r : Int) (h : place_Beside_1.f a0_0 a0_1 a1_0 a1_1 = some r) : Ct Tryz.prog B 43 [.agg [.int .i64 a0_0, .int .i64 a0_1], .agg [.int .i64 a1_0, .int .i64 a1_1]] (ofL []) (.int .i64 r) (ofL []) := by
  refine Ct.of (Y := (fam Tryz.f43 [] [] [] (fun r : Int => .int .i64 r) (fun r => []))) Tryz.func43 rfl Tryz.call43 rfl rfl ?_ r h
  unfold place_Beside_1.f
  refine RS.go ?_
  refine RT.brN rfl (fun c1 => ?_) (fun c1 => ?_)
  · exact RT.done rfl rfl (Le.refl _) trivial rfl (dom0 rfl)
  · exact RT.done rfl rfl (Le.refl _) trivial rfl (dom0 rfl)
/-! ### place_locator: function 44 -/
def place_locator.k0 : List DK := [⟨[44], [], [7], []⟩, ⟨[26, 43], [44, 7], [44], [7]⟩, ⟨[34, 42], [43], [43], []⟩, ⟨[36, 41], [], [42], []⟩, ⟨[40], [], [41], []⟩, ⟨[37, 39], [], [40], []⟩, ⟨[38], [9], [39], []⟩, ⟨[9], [9], [38], []⟩, ⟨[6], [], [37], []⟩, ⟨[35], [9], [36], []⟩, ⟨[9], [9], [35], []⟩, ⟨[28, 33], [], [34], []⟩, ⟨[32], [], [33], []⟩, ⟨[29, 31], [], [32], []⟩, ⟨[30], [9], [31], []⟩, ⟨[9], [9], [30], []⟩, ⟨[5], [], [29], []⟩, ⟨[27], [9], [28], []⟩, ⟨[9], [9], [27], []⟩, ⟨[7], [], [26], []⟩]
def place_locator.k1 : List Nat := [0, 0, 2, 0, 0, 16, 56, 120, 254, 0, 512, 0, 0, 4096, 14336, 30720, 65024, 131070, 262143, 524287]
def place_locator.k2 : List DK := [⟨[16], [], [6], []⟩, ⟨[12], [], [5], []⟩, ⟨[15], [], [16], []⟩, ⟨[14], [], [15], []⟩, ⟨[13], [2], [14], []⟩, ⟨[2], [2], [13], []⟩, ⟨[11], [], [12], []⟩, ⟨[10], [2], [11], []⟩, ⟨[2], [2], [10], []⟩]
def place_locator.k3 : List Nat := [0, 1, 3, 0, 8, 24, 56, 7, 255]
def place_locator.l0 : Nat → Int → Int → List (Int × Int × Int × Int) → Int → Int → List Int → Option (ByteArray)
  | 0, _, _, _, _, _, _ => Option.none
  | k + 1, x5, x6, x20, x21, x22, o7 => (if x22 < x21 then (if 0 ≤ x22 then (if x22 < (x20.length : Int) then (if (rdE e_IIII x20 x22).2.2.1 = 0 then Option.none else (if (rdE e_IIII x20 x22).2.2.2 = 0 then Option.none else (if o7.length + [(((rdE e_IIII x20 x22).2.1) + ((wrap64 (Int.tdiv x5 ((rdE e_IIII x20 x22).2.2.1))) % 256)) % 256, (((rdE e_IIII x20 x22).2.1) + ((wrap64 (Int.tdiv x6 ((rdE e_IIII x20 x22).2.2.2))) % 256)) % 256].length ≤ 549755813888 then (if (rdE e_IIII x20 x22).2.2.1 = 0 then Option.none else (if (rdE e_IIII x20 x22).2.2.2 = 0 then Option.none else place_locator.l0 k (Int.tmod x5 ((rdE e_IIII x20 x22).2.2.1)) (Int.tmod x6 ((rdE e_IIII x20 x22).2.2.2)) x20 x21 (wrap64 (x22 + 1)) (o7 ++ [(((rdE e_IIII x20 x22).2.1) + ((wrap64 (Int.tdiv x5 ((rdE e_IIII x20 x22).2.2.1))) % 256)) % 256, (((rdE e_IIII x20 x22).2.1) + ((wrap64 (Int.tdiv x6 ((rdE e_IIII x20 x22).2.2.2))) % 256)) % 256]))) else Option.none))) else Option.none) else Option.none) else Option.some (bytesE o7))
def place_locator.f (k : Nat) (a0_0 : Int) (a0_1 : Int) (a1 : Int) : Option (ByteArray) := (place_levels.f.bind fun r1 => (if 0 ≤ wrap64 (Int.tdiv a1 2) then (if wrap64 (Int.tdiv a1 2) ≤ (r1.length : Int) then place_locator.l0 k (wrap64 (a0_1 + 648000)) (mn (wrap64 (a0_0 + 324000)) 647999) (r1.take (wrap64 (Int.tdiv a1 2)).toNat) ((r1.take (wrap64 (Int.tdiv a1 2)).toNat).length : Int) 0 [] else Option.none) else Option.none))
theorem place_locator.loops : ∀ k, (∀ (x5 : Int) (x6 : Int) (x20 : List (Int × Int × Int × Int)) (x21 : Int) (x22 : Int) (o7 : List Int), RS (fam Tryz.f44 [1000055] [] [] (fun r : ByteArray => .str r) (fun r => [])) (Func.head Tryz.f44 0) ⟨ofT [(5, .int .i64 x5), (6, .int .i64 x6), (7, .osl 7 eU.w 0 o7.length o7.length), (20, sq e_IIII x20), (21, .int .i64 x21), (22, .int .i64 x22)], ofL [(7, bufE eU o7)]⟩ (place_locator.l0 k x5 x6 x20 x21 x22 o7))
  | 0 => by intro _ _ _ _ _ _; simp only [place_locator.l0]; exact RS.none
  | k + 1 => by
    have ih := place_locator.loops k
    · intro x5 x6 x20 x21 x22 o7
      simp only [place_locator.l0]
      refine RS.go ?_
      refine RT.br rfl (fun c11 => ?_) (fun c11 => ?_)
      · refine RT.br rfl (fun c4 => ?_) (fun c4 => RT.none)
        refine RT.br rfl (fun c5 => ?_) (fun c5 => RT.none)
        refine RT.goto rfl ?_
        refine RS.draw rfl ?_
        refine RD.br rfl (fun _ => RD.none) (fun c10 => ?_)
        refine RD.br rfl (fun _ => RD.none) (fun c9 => ?_)
        refine RD.req rfl ⟨by first | rfl | simp, by first | exact Nat.le_refl _ | simp⟩ ?_
        refine RD.not rfl (by simp <;> omega) ?_
        refine RD.br rfl (fun c6 => ?_) (fun _ => RD.none)
        refine RD.fin place_locator.k0 place_locator.k1 rfl rfl (by decide +kernel) ?_
        refine RS.obj 7 (bufE eU (o7 ++ [(((rdE e_IIII x20 x22).2.1) + ((wrap64 (Int.tdiv x5 ((rdE e_IIII x20 x22).2.2.1))) % 256)) % 256, (((rdE e_IIII x20 x22).2.1) + ((wrap64 (Int.tdiv x6 ((rdE e_IIII x20 x22).2.2.2))) % 256)) % 256])) ⟨_, rfl, LeO.app (l := o7) (m := [(((rdE e_IIII x20 x22).2.1) + ((wrap64 (Int.tdiv x5 ((rdE e_IIII x20 x22).2.2.1))) % 256)) % 256, (((rdE e_IIII x20 x22).2.1) + ((wrap64 (Int.tdiv x6 ((rdE e_IIII x20 x22).2.2.2))) % 256)) % 256]) (cells_of rfl)⟩ ?_
        refine RS.slot 7 (.osl 7 eU.w 0 (o7 ++ [(((rdE e_IIII x20 x22).2.1) + ((wrap64 (Int.tdiv x5 ((rdE e_IIII x20 x22).2.2.1))) % 256)) % 256, (((rdE e_IIII x20 x22).2.1) + ((wrap64 (Int.tdiv x6 ((rdE e_IIII x20 x22).2.2.2))) % 256)) % 256]).length (o7 ++ [(((rdE e_IIII x20 x22).2.1) + ((wrap64 (Int.tdiv x5 ((rdE e_IIII x20 x22).2.2.1))) % 256)) % 256, (((rdE e_IIII x20 x22).2.1) + ((wrap64 (Int.tdiv x6 ((rdE e_IIII x20 x22).2.2.2))) % 256)) % 256]).length) (Le.oslN rfl (by simp)) ?_
        refine RS.slot 44 (.osl 7 eU.w 0 (o7 ++ [(((rdE e_IIII x20 x22).2.1) + ((wrap64 (Int.tdiv x5 ((rdE e_IIII x20 x22).2.2.1))) % 256)) % 256, (((rdE e_IIII x20 x22).2.1) + ((wrap64 (Int.tdiv x6 ((rdE e_IIII x20 x22).2.2.2))) % 256)) % 256]).length (o7 ++ [(((rdE e_IIII x20 x22).2.1) + ((wrap64 (Int.tdiv x5 ((rdE e_IIII x20 x22).2.2.1))) % 256)) % 256, (((rdE e_IIII x20 x22).2.1) + ((wrap64 (Int.tdiv x6 ((rdE e_IIII x20 x22).2.2.2))) % 256)) % 256]).length) (Le.oslN rfl (by simp)) ?_
        refine RS.go ?_
        refine RT.br rfl (fun _ => RT.none) (fun c8 => ?_)
        refine RT.br rfl (fun _ => RT.none) (fun c7 => ?_)
        refine RT.goto rfl ?_
        refine RS.weak [(5, .int .i64 (Int.tmod x5 ((rdE e_IIII x20 x22).2.2.1))), (6, .int .i64 (Int.tmod x6 ((rdE e_IIII x20 x22).2.2.2))), (7, .osl 7 eU.w 0 (o7 ++ [(((rdE e_IIII x20 x22).2.1) + ((wrap64 (Int.tdiv x5 ((rdE e_IIII x20 x22).2.2.1))) % 256)) % 256, (((rdE e_IIII x20 x22).2.1) + ((wrap64 (Int.tdiv x6 ((rdE e_IIII x20 x22).2.2.2))) % 256)) % 256]).length (o7 ++ [(((rdE e_IIII x20 x22).2.1) + ((wrap64 (Int.tdiv x5 ((rdE e_IIII x20 x22).2.2.1))) % 256)) % 256, (((rdE e_IIII x20 x22).2.1) + ((wrap64 (Int.tdiv x6 ((rdE e_IIII x20 x22).2.2.2))) % 256)) % 256]).length), (20, sq e_IIII x20), (21, .int .i64 x21), (22, .int .i64 (wrap64 (x22 + 1)))] [(7, bufE eU (o7 ++ [(((rdE e_IIII x20 x22).2.1) + ((wrap64 (Int.tdiv x5 ((rdE e_IIII x20 x22).2.2.1))) % 256)) % 256, (((rdE e_IIII x20 x22).2.1) + ((wrap64 (Int.tdiv x6 ((rdE e_IIII x20 x22).2.2.2))) % 256)) % 256]))] ⟨Le.eq (by first | rfl | simp), Le.eq (by first | rfl | simp), (by first | exact Le.oslN rfl (by first | rfl | simp) | exact Le.refl _ | exact Le.eq (by first | rfl | simp)), Le.eq (by first | rfl | simp), Le.eq (by first | rfl | simp), Le.eq (by first | rfl | simp), trivial⟩ ⟨⟨_, rfl, LeO.refl _⟩, trivial⟩ rfl (dom0 rfl) ?_
        exact ih (Int.tmod x5 ((rdE e_IIII x20 x22).2.2.1)) (Int.tmod x6 ((rdE e_IIII x20 x22).2.2.2)) x20 x21 (wrap64 (x22 + 1)) (o7 ++ [(((rdE e_IIII x20 x22).2.1) + ((wrap64 (Int.tdiv x5 ((rdE e_IIII x20 x22).2.2.1))) % 256)) % 256, (((rdE e_IIII x20 x22).2.1) + ((wrap64 (Int.tdiv x6 ((rdE e_IIII x20 x22).2.2.2))) % 256)) % 256]) 
      · refine RT.req rfl ⟨by first | exact Nat.zero_add _ | rfl | simp, by first | exact Nat.le_refl _ | simp⟩ ?_
        refine RT.req rfl (fun i hi => ?_) ?_
        · first | rfl | (simp only [Nat.zero_add]; rfl)
        refine RT.goto rfl ?_
        refine RS.slot 55 (.str (bytesE o7)) (Le.eq (congrArg AV.str (bytes_rep o7 _ fun i hi => by first | rfl | (simp only [Nat.zero_add]; rfl)))) ?_
        refine RS.go ?_
        exact RT.done rfl rfl (Le.refl _) trivial rfl (dom0 rfl)
theorem place_locator.ok (k : Nat) (a0_0 : Int) (a0_1 : Int) (a1 : Int) (r : ByteArray) (h : place_locator.f k a0_0 a0_1 a1 = some r) : Ct Tryz.prog B 44 [.agg [.int .i64 a0_0, .int .i64 a0_1], .int .i64 a1] (ofL []) (.str r) (ofL []) := by
  refine Ct.of (Y := (fam Tryz.f44 [1000055] [] [] (fun r : ByteArray => .str r) (fun r => []))) Tryz.func44 rfl Tryz.call44 rfl rfl ?_ r h
  unfold place_locator.f
  refine RS.go ?_
  refine RT.goto rfl ?_
  refine RS.draw rfl ?_
  refine RD.fin place_locator.k2 place_locator.k3 rfl rfl (by decide +kernel) ?_
  refine RS.go ?_
  refine RT.call0 rfl (fun _ h => place_levels.ok  _ h) (LeL.eq rfl) (fun _ => rfl) (fun r1 => ?_)
  refine RS.go ?_
  refine RT.brF rfl ?_
  refine RT.br rfl (fun c2 => ?_) (fun c2 => RT.none)
  refine RT.br rfl (fun c3 => ?_) (fun c3 => RT.none)
  refine RT.goto rfl ?_
  refine RS.slot 20 (sq e_IIII (r1.take (wrap64 (Int.tdiv a1 2)).toNat)) (Le.head (by first | omega | assumption) (by first | omega | assumption)) ?_
  refine RS.go ?_
  refine RT.goto rfl ?_
  refine RS.ghost 7 7 eU.w (rep eU []) rfl rfl ?_
  refine RS.weak [(5, .int .i64 (wrap64 (a0_1 + 648000))), (6, .int .i64 (mn (wrap64 (a0_0 + 324000)) 647999)), (7, .osl 7 eU.w 0 ([] : List Int).length ([] : List Int).length), (20, sq e_IIII (r1.take (wrap64 (Int.tdiv a1 2)).toNat)), (21, .int .i64 ((r1.take (wrap64 (Int.tdiv a1 2)).toNat).length : Int)), (22, .int .i64 0)] [(7, bufE eU ([] : List Int))] ⟨Le.eq (by first | rfl | simp), Le.eq (by first | rfl | simp), (by first | exact Le.oslN rfl (by first | rfl | simp) | exact Le.refl _ | exact Le.eq (by first | rfl | simp)), Le.eq (by first | rfl | simp), Le.eq (by first | rfl | simp), Le.eq (by first | rfl | simp), trivial⟩ ⟨⟨_, rfl, LeO.refl _⟩, trivial⟩ rfl (dom0 rfl) ?_
  exact place_locator.loops k (wrap64 (a0_1 + 648000)) (mn (wrap64 (a0_0 + 324000)) 647999) (r1.take (wrap64 (Int.tdiv a1 2)).toNat) ((r1.take (wrap64 (Int.tdiv a1 2)).toNat).length : Int) 0 [] 
/-! ### slices_insertionSortCmpFunc_api_Site_of_place_Beside_1: function 72 -/
def slices_insertionSortCmpFunc_api_Site_of_place_Beside_1.k0 : List DK := [⟨[52, 50], [100000], [], [100000]⟩, ⟨[39, 41], [100000], [52], []⟩, ⟨[51, 46], [100000], [], [100000]⟩, ⟨[37, 38], [100000], [51], []⟩, ⟨[49], [100000], [50], []⟩, ⟨[47, 48], [100000], [49], []⟩, ⟨[9], [], [48], []⟩, ⟨[0], [], [47], []⟩, ⟨[45], [100000], [46], []⟩, ⟨[42, 44], [100000], [45], []⟩, ⟨[43], [], [44], []⟩, ⟨[9], [], [43], []⟩, ⟨[0], [], [42], []⟩, ⟨[40], [], [41], []⟩, ⟨[9], [], [40], []⟩, ⟨[0], [], [39], []⟩, ⟨[9], [], [38], []⟩, ⟨[0], [], [37], []⟩]
def slices_insertionSortCmpFunc_api_Site_of_place_Beside_1.k1 : List Nat := [0, 0, 0, 0, 8, 0, 0, 64, 224, 480, 0, 0, 3072, 7168, 16355, 32739, 65535, 131071]
def slices_insertionSortCmpFunc_api_Site_of_place_Beside_1.k2 : List DK := [⟨[21, 33], [], [34], []⟩, ⟨[21, 32], [], [33], []⟩, ⟨[21, 22, 26, 31], [], [32], []⟩, ⟨[21, 30], [100000], [31], []⟩, ⟨[21, 27, 29], [100000], [30], []⟩, ⟨[21, 28], [], [29], []⟩, ⟨[21, 9], [], [28], []⟩, ⟨[21, 0], [], [27], []⟩, ⟨[21, 25], [100000], [26], []⟩, ⟨[21, 23, 24], [100000], [25], []⟩, ⟨[21, 9], [], [24], []⟩, ⟨[21, 0], [], [23], []⟩, ⟨[21, 3], [], [22], []⟩, ⟨[20], [], [21], []⟩, ⟨[18, 19], [], [20], []⟩, ⟨[1], [], [19], []⟩, ⟨[9], [], [18], []⟩]
def slices_insertionSortCmpFunc_api_Site_of_place_Beside_1.k3 : List Nat := [0, 0, 3, 7, 15, 15, 15, 111, 239, 15, 15, 1039, 3599, 7695, 16383, 32767, 65535]
def slices_insertionSortCmpFunc_api_Site_of_place_Beside_1.k4 : List DK := [⟨[21, 33], [], [34], []⟩, ⟨[21], [], [33], []⟩, ⟨[21], [], [32], []⟩, ⟨[21], [], [31], []⟩, ⟨[21], [], [30], []⟩, ⟨[21], [], [29], []⟩, ⟨[21], [], [28], []⟩, ⟨[21], [], [27], []⟩, ⟨[21], [], [26], []⟩, ⟨[21], [], [25], []⟩, ⟨[21], [], [24], []⟩, ⟨[21], [], [23], []⟩, ⟨[21], [], [22], []⟩, ⟨[20], [], [21], []⟩, ⟨[18, 19], [], [20], []⟩, ⟨[1], [], [19], []⟩, ⟨[9], [], [18], []⟩]
mutual
def slices_insertionSortCmpFunc_api_Site_of_place_Beside_1.l1 : Nat → Int → Int → Int → Int → List (Int × Int) → Option ((List (Int × Int)))
  | 0, _, _, _, _, _ => Option.none
  | k + 1, a1, a2, x8, x9b, o100000b => (if x9b > a1 then (if 0 ≤ x9b then (if x9b < (o100000b.length : Int) then (if 0 ≤ wrap64 (x9b - 1) then (if wrap64 (x9b - 1) < (o100000b.length : Int) then ((place_Beside_1.f ((rdE e_II o100000b x9b).1) ((rdE e_II o100000b x9b).2) ((rdE e_II o100000b (wrap64 (x9b - 1))).1) ((rdE e_II o100000b (wrap64 (x9b - 1))).2)).bind fun r5 => (if r5 < 0 then (if 0 ≤ wrap64 (x9b - 1) then (if wrap64 (x9b - 1) < (o100000b.length : Int) then (if 0 ≤ x9b then (if x9b < (o100000b.length : Int) then (if 0 ≤ x9b then (if x9b < (o100000b.length : Int) then (if 0 ≤ wrap64 (x9b - 1) then (if wrap64 (x9b - 1) < (o100000b.length : Int) then slices_insertionSortCmpFunc_api_Site_of_place_Beside_1.l1 k a1 a2 x8 (wrap64 (x9b - 1)) ((o100000b.set (x9b).toNat ((rdE e_II o100000b (wrap64 (x9b - 1))).1, (rdE e_II o100000b (wrap64 (x9b - 1))).2)).set ((wrap64 (x9b - 1))).toNat ((rdE e_II o100000b x9b).1, (rdE e_II o100000b x9b).2)) else Option.none) else Option.none) else Option.none) else Option.none) else Option.none) else Option.none) else Option.none) else Option.none) else slices_insertionSortCmpFunc_api_Site_of_place_Beside_1.l0 k a1 a2 (wrap64 (x8 + 1)) o100000b)) else Option.none) else Option.none) else Option.none) else Option.none) else slices_insertionSortCmpFunc_api_Site_of_place_Beside_1.l0 k a1 a2 (wrap64 (x8 + 1)) o100000b)
def slices_insertionSortCmpFunc_api_Site_of_place_Beside_1.l0 : Nat → Int → Int → Int → List (Int × Int) → Option ((List (Int × Int)))
  | 0, _, _, _, _ => Option.none
  | k + 1, a1, a2, x8, o100000 => (if x8 < a2 then slices_insertionSortCmpFunc_api_Site_of_place_Beside_1.l1 k a1 a2 x8 x8 o100000 else Option.some o100000)
end
def slices_insertionSortCmpFunc_api_Site_of_place_Beside_1.f (k : Nat) (l0 : List (Int × Int)) (a1 : Int) (a2 : Int) : Option ((List (Int × Int))) := slices_insertionSortCmpFunc_api_Site_of_place_Beside_1.l0 k a1 a2 (wrap64 (a1 + 1)) l0
theorem slices_insertionSortCmpFunc_api_Site_of_place_Beside_1.loops (l0 : List (Int × Int)) : ∀ k, (∀ (a1 : Int) (a2 : Int) (x8 : Int) (x9b : Int) (o100000b : List (Int × Int)), RS (fam Tryz.f72 [] [] [(100000, bufE e_II l0)] (fun r : (List (Int × Int)) => .tup []) (fun r => [(100000, bufE e_II r)])) (Func.head Tryz.f72 1) ⟨ofT [(0, .osl 100000 e_II.w 0 o100000b.length o100000b.length), (1, .int .i64 a1), (2, .int .i64 a2), (3, .fn 43 []), (8, .int .i64 x8), (9, .int .i64 x9b)], ofL [(100000, bufE e_II o100000b)]⟩ (slices_insertionSortCmpFunc_api_Site_of_place_Beside_1.l1 k a1 a2 x8 x9b o100000b)) ∧ (∀ (a1 : Int) (a2 : Int) (x8 : Int) (o100000 : List (Int × Int)), RS (fam Tryz.f72 [] [] [(100000, bufE e_II l0)] (fun r : (List (Int × Int)) => .tup []) (fun r => [(100000, bufE e_II r)])) (Func.head Tryz.f72 0) ⟨ofT [(0, .osl 100000 e_II.w 0 o100000.length o100000.length), (1, .int .i64 a1), (2, .int .i64 a2), (3, .fn 43 []), (8, .int .i64 x8)], ofL [(100000, bufE e_II o100000)]⟩ (slices_insertionSortCmpFunc_api_Site_of_place_Beside_1.l0 k a1 a2 x8 o100000))
  | 0 => ⟨by intro _ _ _ _ _; simp only [slices_insertionSortCmpFunc_api_Site_of_place_Beside_1.l1]; exact RS.none, by intro _ _ _ _; simp only [slices_insertionSortCmpFunc_api_Site_of_place_Beside_1.l0]; exact RS.none⟩
  | k + 1 => by
    have ih := slices_insertionSortCmpFunc_api_Site_of_place_Beside_1.loops l0 k
    refine ⟨?_, ?_⟩
    · intro a1 a2 x8 x9b o100000b
      simp only [slices_insertionSortCmpFunc_api_Site_of_place_Beside_1.l1]
      refine RS.go ?_
      refine RT.goto rfl ?_
      refine RS.draw rfl ?_
      refine RD.br rfl (fun c15 => ?_) (fun c15 => ?_)
      · refine RD.brT rfl ?_
        refine RD.brT rfl ?_
        refine RD.brT rfl ?_
        refine RD.req rfl (by first | exact Nat.zero_add _ | rfl | simp) ?_
        refine RD.br rfl (fun c1 => ?_) (fun c1 => RD.none)
        refine RD.br rfl (fun c2 => ?_) (fun c2 => RD.none)
        refine RD.brT rfl ?_
        refine RD.req rfl ⟨by first | rfl | simp, elt_lt c1 (by first | exact c2 | simpa using c2)⟩ ?_
        refine RD.brT rfl ?_
        refine RD.brT rfl ?_
        refine RD.brT rfl ?_
        refine RD.brT rfl ?_
        refine RD.req rfl (by first | exact Nat.zero_add _ | rfl | simp) ?_
        refine RD.br rfl (fun c3 => ?_) (fun c3 => RD.none)
        refine RD.br rfl (fun c4 => ?_) (fun c4 => RD.none)
        refine RD.brT rfl ?_
        refine RD.req rfl ⟨by first | rfl | simp, elt_lt c3 (by first | exact c4 | simpa using c4)⟩ ?_
        refine RD.brT rfl ?_
        refine RD.call (CR := []) (CW := (fun r => [])) rfl (fun _ h => place_Beside_1.ok ((rdE e_II o100000b x9b).1) ((rdE e_II o100000b x9b).2) ((rdE e_II o100000b (wrap64 (x9b - 1))).1) ((rdE e_II o100000b (wrap64 (x9b - 1))).2) _ h) (fun i => i) trivial (fun _ => rfl) ⟨_, _, _, _, rfl, rfl, rfl⟩ (LeL.eq rfl) trivial (fun _ => rfl) (fun r5 => ?_)
        refine RD.brT rfl ?_
        refine RD.brT rfl ?_
        refine RD.fin slices_insertionSortCmpFunc_api_Site_of_place_Beside_1.k2 slices_insertionSortCmpFunc_api_Site_of_place_Beside_1.k3 rfl rfl (by decide +kernel) ?_
        refine RS.go ?_
        refine RT.br rfl (fun c14 => ?_) (fun c14 => ?_)
        · refine RT.goto rfl ?_
          refine RS.draw rfl ?_
          refine RD.req rfl (by first | exact Nat.zero_add _ | rfl | simp) ?_
          refine RD.br rfl (fun c6 => ?_) (fun c6 => RD.none)
          refine RD.br rfl (fun c7 => ?_) (fun c7 => RD.none)
          refine RD.req rfl ⟨by first | rfl | simp, elt_lt c6 (by first | exact c7 | simpa using c7)⟩ ?_
          refine RD.req rfl (by first | exact Nat.zero_add _ | rfl | simp) ?_
          refine RD.br rfl (fun c8 => ?_) (fun c8 => RD.none)
          refine RD.br rfl (fun c9 => ?_) (fun c9 => RD.none)
          refine RD.req rfl ⟨by first | rfl | simp, elt_lt c8 (by first | exact c9 | simpa using c9)⟩ ?_
          refine RD.req rfl (by first | exact Nat.zero_add _ | rfl | simp) ?_
          refine RD.br rfl (fun c10 => ?_) (fun c10 => RD.none)
          refine RD.br rfl (fun c11 => ?_) (fun c11 => RD.none)
          refine RD.req rfl ⟨by first | rfl | simp, elt_lt c10 (by first | exact c11 | simpa using c11)⟩ ?_
          refine RD.req rfl (by first | exact Nat.zero_add _ | rfl | simp) ?_
          refine RD.br rfl (fun c12 => ?_) (fun c12 => RD.none)
          refine RD.br rfl (fun c13 => ?_) (fun c13 => RD.none)
          refine RD.req rfl ⟨by first | rfl | simp, elt_lt c12 (by first | exact c13 | simpa using c13)⟩ ?_
          refine RD.fin slices_insertionSortCmpFunc_api_Site_of_place_Beside_1.k0 slices_insertionSortCmpFunc_api_Site_of_place_Beside_1.k1 rfl rfl (by decide +kernel) ?_
          refine RS.obj 100000 (bufE e_II ((o100000b.set (x9b).toNat ((rdE e_II o100000b (wrap64 (x9b - 1))).1, (rdE e_II o100000b (wrap64 (x9b - 1))).2)).set ((wrap64 (x9b - 1))).toNat ((rdE e_II o100000b x9b).1, (rdE e_II o100000b x9b).2))) ⟨_, rfl, LeO.setE2 (l := o100000b) (l' := o100000b.set (x9b).toNat ((rdE e_II o100000b (wrap64 (x9b - 1))).1, (rdE e_II o100000b (wrap64 (x9b - 1))).2)) (by simp) (rep_set c10 (by first | exact c11 | simpa using c11) (all2 rfl rfl)) c12 (by first | exact c13 | simpa using c13) (all2 rfl rfl)⟩ ?_
          refine RS.go ?_
          refine RT.goto rfl ?_
          refine RS.weak [(0, .osl 100000 e_II.w 0 ((o100000b.set (x9b).toNat ((rdE e_II o100000b (wrap64 (x9b - 1))).1, (rdE e_II o100000b (wrap64 (x9b - 1))).2)).set ((wrap64 (x9b - 1))).toNat ((rdE e_II o100000b x9b).1, (rdE e_II o100000b x9b).2)).length ((o100000b.set (x9b).toNat ((rdE e_II o100000b (wrap64 (x9b - 1))).1, (rdE e_II o100000b (wrap64 (x9b - 1))).2)).set ((wrap64 (x9b - 1))).toNat ((rdE e_II o100000b x9b).1, (rdE e_II o100000b x9b).2)).length), (1, .int .i64 a1), (2, .int .i64 a2), (3, .fn 43 []), (8, .int .i64 x8), (9, .int .i64 (wrap64 (x9b - 1)))] [(100000, bufE e_II ((o100000b.set (x9b).toNat ((rdE e_II o100000b (wrap64 (x9b - 1))).1, (rdE e_II o100000b (wrap64 (x9b - 1))).2)).set ((wrap64 (x9b - 1))).toNat ((rdE e_II o100000b x9b).1, (rdE e_II o100000b x9b).2)))] ⟨(by first | exact Le.oslN rfl (by first | rfl | simp) | exact Le.refl _ | exact Le.eq (by first | rfl | simp)), Le.eq (by first | rfl | simp), Le.eq (by first | rfl | simp), Le.eq (by first | rfl | simp), Le.eq (by first | rfl | simp), Le.eq (by first | rfl | simp), trivial⟩ ⟨⟨_, rfl, LeO.refl _⟩, trivial⟩ rfl (dom_of rfl) ?_
          exact ih.1 a1 a2 x8 (wrap64 (x9b - 1)) ((o100000b.set (x9b).toNat ((rdE e_II o100000b (wrap64 (x9b - 1))).1, (rdE e_II o100000b (wrap64 (x9b - 1))).2)).set ((wrap64 (x9b - 1))).toNat ((rdE e_II o100000b x9b).1, (rdE e_II o100000b x9b).2)) 
        · refine RT.goto rfl ?_
          refine RS.weak [(0, .osl 100000 e_II.w 0 o100000b.length o100000b.length), (1, .int .i64 a1), (2, .int .i64 a2), (3, .fn 43 []), (8, .int .i64 (wrap64 (x8 + 1)))] [(100000, bufE e_II o100000b)] ⟨(by first | exact Le.oslN rfl (by first | rfl | simp) | exact Le.refl _ | exact Le.eq (by first | rfl | simp)), Le.eq (by first | rfl | simp), Le.eq (by first | rfl | simp), Le.eq (by first | rfl | simp), Le.eq (by first | rfl | simp), trivial⟩ ⟨⟨_, rfl, LeO.refl _⟩, trivial⟩ rfl (dom_of rfl) ?_
          exact ih.2 a1 a2 (wrap64 (x8 + 1)) o100000b 
      · refine RD.brF rfl ?_
        refine RD.brF rfl ?_
        refine RD.brF rfl ?_
        refine RD.brF rfl ?_
        refine RD.brF rfl ?_
        refine RD.brF rfl ?_
        refine RD.brF rfl ?_
        refine RD.brF rfl ?_
        refine RD.brF rfl ?_
        refine RD.brF rfl ?_
        refine RD.brF rfl ?_
        refine RD.brF rfl ?_
        refine RD.fin slices_insertionSortCmpFunc_api_Site_of_place_Beside_1.k4 slices_insertionSortCmpFunc_api_Site_of_place_Beside_1.k3 rfl rfl (by decide +kernel) ?_
        refine RS.go ?_
        refine RT.brF rfl ?_
        refine RT.goto rfl ?_
        refine RS.weak [(0, .osl 100000 e_II.w 0 o100000b.length o100000b.length), (1, .int .i64 a1), (2, .int .i64 a2), (3, .fn 43 []), (8, .int .i64 (wrap64 (x8 + 1)))] [(100000, bufE e_II o100000b)] ⟨(by first | exact Le.oslN rfl (by first | rfl | simp) | exact Le.refl _ | exact Le.eq (by first | rfl | simp)), Le.eq (by first | rfl | simp), Le.eq (by first | rfl | simp), Le.eq (by first | rfl | simp), Le.eq (by first | rfl | simp), trivial⟩ ⟨⟨_, rfl, LeO.refl _⟩, trivial⟩ rfl (dom_of rfl) ?_
        exact ih.2 a1 a2 (wrap64 (x8 + 1)) o100000b 
    · intro a1 a2 x8 o100000
      simp only [slices_insertionSortCmpFunc_api_Site_of_place_Beside_1.l0]
      refine RS.go ?_
      refine RT.br rfl (fun c16 => ?_) (fun c16 => ?_)
      · refine RT.goto rfl ?_
        refine RS.weak [(0, .osl 100000 e_II.w 0 o100000.length o100000.length), (1, .int .i64 a1), (2, .int .i64 a2), (3, .fn 43 []), (8, .int .i64 x8), (9, .int .i64 x8)] [(100000, bufE e_II o100000)] ⟨(by first | exact Le.oslN rfl (by first | rfl | simp) | exact Le.refl _ | exact Le.eq (by first | rfl | simp)), Le.eq (by first | rfl | simp), Le.eq (by first | rfl | simp), Le.eq (by first | rfl | simp), Le.eq (by first | rfl | simp), Le.eq (by first | rfl | simp), trivial⟩ ⟨⟨_, rfl, LeO.refl _⟩, trivial⟩ rfl (dom_of rfl) ?_
        exact ih.1 a1 a2 x8 x8 o100000 
      · exact RT.done rfl rfl (Le.tup (LeL.nil)) ⟨⟨_, rfl, LeO.refl _⟩, trivial⟩ rfl (dom_of rfl)
theorem slices_insertionSortCmpFunc_api_Site_of_place_Beside_1.ok (k : Nat) (l0 : List (Int × Int)) (a1 : Int) (a2 : Int) (r : (List (Int × Int))) (h : slices_insertionSortCmpFunc_api_Site_of_place_Beside_1.f k l0 a1 a2 = some r) : Ct Tryz.prog B 72 [.osl 100000 e_II.w 0 l0.length l0.length, .int .i64 a1, .int .i64 a2, .fn 43 []] (ofL [(100000, bufE e_II l0)]) (.tup []) (ofL [(100000, bufE e_II r)]) := by
  refine Ct.of (Y := (fam Tryz.f72 [] [] [(100000, bufE e_II l0)] (fun r : (List (Int × Int)) => .tup []) (fun r => [(100000, bufE e_II r)]))) Tryz.func72 rfl Tryz.call72 rfl rfl ?_ r h
  unfold slices_insertionSortCmpFunc_api_Site_of_place_Beside_1.f
  refine RS.go ?_
  refine RT.goto rfl ?_
  refine RS.weak [(0, .osl 100000 e_II.w 0 l0.length l0.length), (1, .int .i64 a1), (2, .int .i64 a2), (3, .fn 43 []), (8, .int .i64 (wrap64 (a1 + 1)))] [(100000, bufE e_II l0)] ⟨(by first | exact Le.oslN rfl (by first | rfl | simp) | exact Le.refl _ | exact Le.eq (by first | rfl | simp)), Le.eq (by first | rfl | simp), Le.eq (by first | rfl | simp), Le.eq (by first | rfl | simp), Le.eq (by first | rfl | simp), trivial⟩ ⟨⟨_, rfl, LeO.refl _⟩, trivial⟩ rfl (dom_of rfl) ?_
  exact (slices_insertionSortCmpFunc_api_Site_of_place_Beside_1.loops l0 k).2 a1 a2 (wrap64 (a1 + 1)) l0 
/-! ### slices_pdqsortCmpFunc_api_Site_of_place_Beside_1: function 60 -/
def slices_pdqsortCmpFunc_api_Site_of_place_Beside_1.l0 : Nat → List (Int × Int) → Int → Int → Int → Option ((List (Int × Int)))
  | 0, _, _, _, _ => Option.none
  | k + 1, l0, a1, a2, a3 => (if wrap64 (a2 - a1) ≤ 12 then ((slices_insertionSortCmpFunc_api_Site_of_place_Beside_1.f k l0 a1 a2).bind fun r1 => (if l0.length = r1.length then Option.some r1 else Option.none)) else Option.none)
def slices_pdqsortCmpFunc_api_Site_of_place_Beside_1.f (k : Nat) (l0 : List (Int × Int)) (a1 : Int) (a2 : Int) (a3 : Int) : Option ((List (Int × Int))) := slices_pdqsortCmpFunc_api_Site_of_place_Beside_1.l0 k l0 a1 a2 a3
theorem slices_pdqsortCmpFunc_api_Site_of_place_Beside_1.loops (l0 : List (Int × Int)) : ∀ k, (∀ (a1 : Int) (a2 : Int) (a3 : Int), RS (fam Tryz.f60 [] [] [(100000, bufE e_II l0)] (fun r : (List (Int × Int)) => .tup []) (fun r => [(100000, bufE e_II r)])) (Func.head Tryz.f60 0) ⟨ofT [(0, .osl 100000 e_II.w 0 l0.length l0.length), (1, .int .i64 a1), (2, .int .i64 a2), (3, .int .i64 a3), (4, .fn 43 []), (10, .bool true), (11, .bool true)], ofL [(100000, bufE e_II l0)]⟩ (slices_pdqsortCmpFunc_api_Site_of_place_Beside_1.l0 k l0 a1 a2 a3))
  | 0 => by intro _ _ _; simp only [slices_pdqsortCmpFunc_api_Site_of_place_Beside_1.l0]; exact RS.none
  | k + 1 => by
    have ih := slices_pdqsortCmpFunc_api_Site_of_place_Beside_1.loops l0 k
    · intro a1 a2 a3
      simp only [slices_pdqsortCmpFunc_api_Site_of_place_Beside_1.l0]
      refine RS.go ?_
      refine RT.br rfl (fun c3 => ?_) (fun c3 => ?_)
      · refine RT.call rfl (fun _ h => slices_insertionSortCmpFunc_api_Site_of_place_Beside_1.ok k l0 a1 a2 _ h) (fun i => bif Nat.beq i 100000 then 100000 else i) (LeL.eq rfl) ⟨⟨_, rfl, LeO.refl _⟩, trivial⟩ (fun _ => rfl) (fun r1 => ?_)
        refine RS.asm (fun c2 => ?_)
        refine RS.slot 0 (.osl 100000 e_II.w 0 r1.length r1.length) (Le.oslN rfl c2) ?_
        refine RS.slot 26 (.osl 100000 e_II.w 0 r1.length r1.length) (Le.oslN rfl c2) ?_
        refine RS.go ?_
        exact RT.done rfl rfl (Le.tup (LeL.nil)) ⟨⟨_, rfl, LeO.refl _⟩, trivial⟩ rfl (dom_of rfl)
      · exact RT.none
theorem slices_pdqsortCmpFunc_api_Site_of_place_Beside_1.ok (k : Nat) (l0 : List (Int × Int)) (a1 : Int) (a2 : Int) (a3 : Int) (r : (List (Int × Int))) (h : slices_pdqsortCmpFunc_api_Site_of_place_Beside_1.f k l0 a1 a2 a3 = some r) : Ct Tryz.prog B 60 [.osl 100000 e_II.w 0 l0.length l0.length, .int .i64 a1, .int .i64 a2, .int .i64 a3, .fn 43 []] (ofL [(100000, bufE e_II l0)]) (.tup []) (ofL [(100000, bufE e_II r)]) := by
  refine Ct.of (Y := (fam Tryz.f60 [] [] [(100000, bufE e_II l0)] (fun r : (List (Int × Int)) => .tup []) (fun r => [(100000, bufE e_II r)]))) Tryz.func60 rfl Tryz.call60 rfl rfl ?_ r h
  unfold slices_pdqsortCmpFunc_api_Site_of_place_Beside_1.f
  refine RS.go ?_
  refine RT.goto rfl ?_
  refine RS.weak [(0, .osl 100000 e_II.w 0 l0.length l0.length), (1, .int .i64 a1), (2, .int .i64 a2), (3, .int .i64 a3), (4, .fn 43 []), (10, .bool true), (11, .bool true)] [(100000, bufE e_II l0)] ⟨(by first | exact Le.oslN rfl (by first | rfl | simp) | exact Le.refl _ | exact Le.eq (by first | rfl | simp)), Le.eq (by first | rfl | simp), Le.eq (by first | rfl | simp), Le.eq (by first | rfl | simp), Le.eq (by first | rfl | simp), Le.eq (by first | rfl | simp), Le.eq (by first | rfl | simp), trivial⟩ ⟨⟨_, rfl, LeO.refl _⟩, trivial⟩ rfl (dom_of rfl) ?_
  exact slices_pdqsortCmpFunc_api_Site_of_place_Beside_1.loops l0 k a1 a2 a3 
/-! ### slices_SortFunc_api_Site_api_Site_of_place_Beside_1: function 42 -/
def slices_SortFunc_api_Site_api_Site_of_place_Beside_1.f (k : Nat) (l0 : List (Int × Int)) : Option ((List (Int × Int))) := ((math_bits_Len.f k (IntKind.u64.wrap ((l0.length : Int)))).bind fun r1 => ((slices_pdqsortCmpFunc_api_Site_of_place_Beside_1.f k l0 0 (l0.length : Int) r1).bind fun r2 => (if l0.length = r2.length then Option.some r2 else Option.none)))
theorem slices_SortFunc_api_Site_api_Site_of_place_Beside_1.ok (k : Nat) (l0 : List (Int × Int)) (r : (List (Int × Int))) (h : slices_SortFunc_api_Site_api_Site_of_place_Beside_1.f k l0 = some r) : Ct Tryz.prog B 42 [.osl 100000 e_II.w 0 l0.length l0.length, .fn 43 []] (ofL [(100000, bufE e_II l0)]) (.tup []) (ofL [(100000, bufE e_II r)]) := by
  refine Ct.of (Y := (fam Tryz.f42 [] [] [(100000, bufE e_II l0)] (fun r : (List (Int × Int)) => .tup []) (fun r => [(100000, bufE e_II r)]))) Tryz.func42 rfl Tryz.call42 rfl rfl ?_ r h
  unfold slices_SortFunc_api_Site_api_Site_of_place_Beside_1.f
  refine RS.go ?_
  refine RT.req rfl (by first | exact Nat.zero_add _ | rfl | simp [szf, szOf]) ?_
  refine RT.call0 rfl (fun _ h => math_bits_Len.ok k (IntKind.u64.wrap ((l0.length : Int))) _ h) (LeL.eq rfl) (fun _ => rfl) (fun r1 => ?_)
  refine RS.go ?_
  refine RT.call rfl (fun _ h => slices_pdqsortCmpFunc_api_Site_of_place_Beside_1.ok k l0 0 (l0.length : Int) r1 _ h) (fun i => bif Nat.beq i 100000 then 100000 else i) (LeL.eq rfl) ⟨⟨_, rfl, LeO.refl _⟩, trivial⟩ (fun _ => rfl) (fun r2 => ?_)
  refine RS.asm (fun c3 => ?_)
  refine RS.slot 0 (.osl 100000 e_II.w 0 r2.length r2.length) (Le.oslN rfl c3) ?_
  refine RS.slot 5 (.osl 100000 e_II.w 0 r2.length r2.length) (Le.oslN rfl c3) ?_
  refine RS.slot 7 (.osl 100000 e_II.w 0 r2.length r2.length) (Le.oslN rfl c3) ?_
  refine RS.go ?_
  exact RT.done rfl rfl (Le.tup (LeL.nil)) ⟨⟨_, rfl, LeO.refl _⟩, trivial⟩ rfl (dom_of rfl)
/-! ### place_Beside: function 15 -/
def place_Beside.k0 : List DK := [⟨[12, 64], [12], [], [12]⟩, ⟨[], [12, 1000012], [12], [12]⟩, ⟨[57, 63], [], [64], []⟩, ⟨[62], [], [63], []⟩, ⟨[60, 61], [], [62], []⟩, ⟨[11], [], [61], []⟩, ⟨[59], [4], [60], []⟩, ⟨[58], [4], [59], []⟩, ⟨[4], [4], [58], []⟩, ⟨[55, 56], [], [57], []⟩, ⟨[9], [], [56], []⟩, ⟨[54], [4], [55], []⟩, ⟨[53], [4], [54], []⟩, ⟨[4], [4], [53], []⟩]
def place_Beside.k1 : List Nat := [0, 1, 3, 0, 15, 0, 32, 96, 0, 480, 992, 2047, 0, 8191]
def place_Beside.k2 : List DK := [⟨[34], [], [6], []⟩, ⟨[27], [], [5], []⟩, ⟨[30, 33], [], [34], []⟩, ⟨[32], [4], [33], []⟩, ⟨[31], [4], [32], []⟩, ⟨[4], [4], [31], []⟩, ⟨[29], [4], [30], []⟩, ⟨[28], [4], [29], []⟩, ⟨[4], [4], [28], []⟩, ⟨[23, 26], [], [27], []⟩, ⟨[25], [4], [26], []⟩, ⟨[24], [4], [25], []⟩, ⟨[4], [4], [24], []⟩, ⟨[22], [4], [23], []⟩, ⟨[21], [4], [22], []⟩, ⟨[4], [4], [21], []⟩]
def place_Beside.k3 : List Nat := [0, 1, 3, 0, 8, 24, 63, 0, 128, 384, 0, 1024, 3072, 8064, 127, 32767]
mutual
def place_Beside.j15 : Nat → ByteArray → Int → List Int → Int → Int → Int → Int → Int → Int → Int → List (Int × Int) → Option ((List ByteArray) × Int)
  | 0, _, _, _, _, _, _, _, _, _, _, _ => Option.none
  | k + 1, a0, x5, x38, x39, x40, o4_0, o4_1, o4_2, o4_3, x49b, o7j15 => place_Beside.l1 k a0 x5 x38 x39 x40 o4_0 o4_1 o4_2 o4_3 (wrap64 (x49b + 1)) o7j15
def place_Beside.l1 : Nat → ByteArray → Int → List Int → Int → Int → Int → Int → Int → Int → Int → List (Int × Int) → Option ((List ByteArray) × Int)
  | 0, _, _, _, _, _, _, _, _, _, _, _ => Option.none
  | k + 1, a0, x5, x38, x39, x40, o4_0, o4_1, o4_2, o4_3, x49b, o7b => (if x49b < ([wrap64 (0 - x5), 0, x5].length : Int) then (if 0 ≤ x49b then (if x49b < ([wrap64 (0 - x5), 0, x5].length : Int) then ((place_around.f (wrap64 (o4_1 + (rd [wrap64 (0 - x5), 0, x5] x49b)))).bind fun r7 => (if (rd x38 x40) = 0 then (if (rd [wrap64 (0 - x5), 0, x5] x49b) = 0 then place_Beside.j15 k a0 x5 x38 x39 x40 o4_0 o4_1 o4_2 o4_3 x49b o7b else ((kit_Outside.f (wrap64 (o4_0 + (rd x38 x40))) (-324000) 323999).bind fun r11 => (if r11 = true then place_Beside.j15 k a0 x5 x38 x39 x40 o4_0 o4_1 o4_2 o4_3 x49b o7b else (if o7b.length + 1 ≤ 549755813888 then place_Beside.j15 k a0 x5 x38 x39 x40 o4_0 o4_1 o4_2 o4_3 x49b (o7b ++ [(wrap64 (o4_0 + (rd x38 x40)), r7)]) else Option.none)))) else ((kit_Outside.f (wrap64 (o4_0 + (rd x38 x40))) (-324000) 323999).bind fun r8 => (if r8 = true then place_Beside.j15 k a0 x5 x38 x39 x40 o4_0 o4_1 o4_2 o4_3 x49b o7b else (if o7b.length + 1 ≤ 549755813888 then place_Beside.j15 k a0 x5 x38 x39 x40 o4_0 o4_1 o4_2 o4_3 x49b (o7b ++ [(wrap64 (o4_0 + (rd x38 x40)), r7)]) else Option.none))))) else Option.none) else Option.none) else place_Beside.l0 k a0 x5 x38 x39 (wrap64 (x40 + 1)) o4_0 o4_1 o4_2 o4_3 o7b)
def place_Beside.l2 : Nat → ByteArray → Int → Int → List (Int × Int) → List ByteArray → Option ((List ByteArray) × Int)
  | 0, _, _, _, _, _ => Option.none
  | k + 1, a0, x86c, x87c, o7c, o13c => (if x87c < x86c then (if 0 ≤ x87c then (if x87c < (o7c.length : Int) then ((place_locator.f k ((rdE e_II o7c x87c).1) ((rdE e_II o7c x87c).2) (a0.size : Int)).bind fun r21 => (if o13c.length + 1 ≤ 549755813888 then place_Beside.l2 k a0 x86c (wrap64 (x87c + 1)) o7c (o13c ++ [r21]) else Option.none)) else Option.none) else Option.none) else Option.some (o13c, 0))
def place_Beside.l0 : Nat → ByteArray → Int → List Int → Int → Int → Int → Int → Int → Int → List (Int × Int) → Option ((List ByteArray) × Int)
  | 0, _, _, _, _, _, _, _, _, _, _ => Option.none
  | k + 1, a0, x5, x38, x39, x40, o4_0, o4_1, o4_2, o4_3, o7 => (if x40 < x39 then (if 0 ≤ x40 then (if x40 < (x38.length : Int) then place_Beside.l1 k a0 x5 x38 x39 x40 o4_0 o4_1 o4_2 o4_3 0 o7 else Option.none) else Option.none) else ((slices_SortFunc_api_Site_api_Site_of_place_Beside_1.f k o7).bind fun r17 => (if o7.length = r17.length then place_Beside.l2 k a0 (r17.length : Int) 0 r17 [] else Option.none)))
end
def place_Beside.f (k : Nat) (a0 : ByteArray) : Option ((List ByteArray) × Int) := ((place_IsLocator.f k a0).bind fun r1 => (if r1 = true then ((place_area.f k a0).bind fun r2 => place_Beside.l0 k a0 (wrap64 (r2.2.2.2 - r2.2.1)) [wrap64 (0 - (wrap64 (r2.2.2.1 - r2.1))), 0, wrap64 (r2.2.2.1 - r2.1)] ([wrap64 (0 - (wrap64 (r2.2.2.1 - r2.1))), 0, wrap64 (r2.2.2.1 - r2.1)].length : Int) 0 r2.1 r2.2.1 r2.2.2.1 r2.2.2.2 []) else Option.some ([], 3)))
theorem place_Beside.loops : ∀ k, (∀ (a0 : ByteArray) (x5 : Int) (x38 : List Int) (x39 : Int) (x40 : Int) (o4_0 : Int) (o4_1 : Int) (o4_2 : Int) (o4_3 : Int) (x49b : Int) (o7j15 : List (Int × Int)), RS (fam Tryz.f15 [15] [] [] (fun r : (List ByteArray) × Int => .tup [sq eS r.1, .int .i64 r.2]) (fun r => [])) (Func.reg Tryz.f15 15) ⟨ofT [(0, .str a0), (4, .ref 4 0 0 0 4), (5, .int .i64 x5), (7, .osl 7 e_II.w 0 o7j15.length o7j15.length), (9, .int .i64 (rd x38 x40)), (38, sq eI x38), (39, .int .i64 x39), (40, .int .i64 x40), (47, sq eI [wrap64 (0 - x5), 0, x5]), (48, .int .i64 ([wrap64 (0 - x5), 0, x5].length : Int)), (49, .int .i64 x49b)], ofL [(4, .box [.int .i64 o4_0, .int .i64 o4_1, .int .i64 o4_2, .int .i64 o4_3]), (7, bufE e_II o7j15)]⟩ (place_Beside.j15 k a0 x5 x38 x39 x40 o4_0 o4_1 o4_2 o4_3 x49b o7j15)) ∧ (∀ (a0 : ByteArray) (x5 : Int) (x38 : List Int) (x39 : Int) (x40 : Int) (o4_0 : Int) (o4_1 : Int) (o4_2 : Int) (o4_3 : Int) (x49b : Int) (o7b : List (Int × Int)), RS (fam Tryz.f15 [15] [] [] (fun r : (List ByteArray) × Int => .tup [sq eS r.1, .int .i64 r.2]) (fun r => [])) (Func.head Tryz.f15 1) ⟨ofT [(0, .str a0), (4, .ref 4 0 0 0 4), (5, .int .i64 x5), (7, .osl 7 e_II.w 0 o7b.length o7b.length), (9, .int .i64 (rd x38 x40)), (38, sq eI x38), (39, .int .i64 x39), (40, .int .i64 x40), (47, sq eI [wrap64 (0 - x5), 0, x5]), (48, .int .i64 ([wrap64 (0 - x5), 0, x5].length : Int)), (49, .int .i64 x49b)], ofL [(4, .box [.int .i64 o4_0, .int .i64 o4_1, .int .i64 o4_2, .int .i64 o4_3]), (7, bufE e_II o7b)]⟩ (place_Beside.l1 k a0 x5 x38 x39 x40 o4_0 o4_1 o4_2 o4_3 x49b o7b)) ∧ (∀ (a0 : ByteArray) (x86c : Int) (x87c : Int) (o7c : List (Int × Int)) (o13c : List ByteArray), RS (fam Tryz.f15 [15] [] [] (fun r : (List ByteArray) × Int => .tup [sq eS r.1, .int .i64 r.2]) (fun r => [])) (Func.head Tryz.f15 2) ⟨ofT [(0, .str a0), (13, .osl 13 eS.w 0 o13c.length o13c.length), (85, .osl 7 e_II.w 0 o7c.length o7c.length), (86, .int .i64 x86c), (87, .int .i64 x87c)], ofL [(7, bufE e_II o7c), (13, bufE eS o13c)]⟩ (place_Beside.l2 k a0 x86c x87c o7c o13c)) ∧ (∀ (a0 : ByteArray) (x5 : Int) (x38 : List Int) (x39 : Int) (x40 : Int) (o4_0 : Int) (o4_1 : Int) (o4_2 : Int) (o4_3 : Int) (o7 : List (Int × Int)), RS (fam Tryz.f15 [15] [] [] (fun r : (List ByteArray) × Int => .tup [sq eS r.1, .int .i64 r.2]) (fun r => [])) (Func.head Tryz.f15 0) ⟨ofT [(0, .str a0), (4, .ref 4 0 0 0 4), (5, .int .i64 x5), (7, .osl 7 e_II.w 0 o7.length o7.length), (38, sq eI x38), (39, .int .i64 x39), (40, .int .i64 x40)], ofL [(4, .box [.int .i64 o4_0, .int .i64 o4_1, .int .i64 o4_2, .int .i64 o4_3]), (7, bufE e_II o7)]⟩ (place_Beside.l0 k a0 x5 x38 x39 x40 o4_0 o4_1 o4_2 o4_3 o7))
  | 0 => ⟨by intro _ _ _ _ _ _ _ _ _ _ _; simp only [place_Beside.j15]; exact RS.none, by intro _ _ _ _ _ _ _ _ _ _ _; simp only [place_Beside.l1]; exact RS.none, by intro _ _ _ _ _; simp only [place_Beside.l2]; exact RS.none, by intro _ _ _ _ _ _ _ _ _ _; simp only [place_Beside.l0]; exact RS.none⟩
  | k + 1 => by
    have ih := place_Beside.loops k
    refine ⟨?_, ?_, ?_, ?_⟩
    · intro a0 x5 x38 x39 x40 o4_0 o4_1 o4_2 o4_3 x49b o7j15
      simp only [place_Beside.j15]
      refine RS.region ?_
      refine RS.go ?_
      refine RT.goto rfl ?_
      refine RS.weak [(0, .str a0), (4, .ref 4 0 0 0 4), (5, .int .i64 x5), (7, .osl 7 e_II.w 0 o7j15.length o7j15.length), (9, .int .i64 (rd x38 x40)), (38, sq eI x38), (39, .int .i64 x39), (40, .int .i64 x40), (47, sq eI [wrap64 (0 - x5), 0, x5]), (48, .int .i64 ([wrap64 (0 - x5), 0, x5].length : Int)), (49, .int .i64 (wrap64 (x49b + 1)))] [(4, .box [.int .i64 o4_0, .int .i64 o4_1, .int .i64 o4_2, .int .i64 o4_3]), (7, bufE e_II o7j15)] ⟨Le.eq (by first | rfl | simp), Le.eq (by first | rfl | simp), Le.eq (by first | rfl | simp), (by first | exact Le.oslN rfl (by first | rfl | simp) | exact Le.refl _ | exact Le.eq (by first | rfl | simp)), Le.eq (by first | rfl | simp), Le.eq (by first | rfl | simp), Le.eq (by first | rfl | simp), Le.eq (by first | rfl | simp), Le.eq (by first | rfl | simp), Le.eq (by first | rfl | simp), Le.eq (by first | rfl | simp), trivial⟩ ⟨⟨_, rfl, LeO.refl _⟩, ⟨_, rfl, LeO.refl _⟩, trivial⟩ rfl (dom0 rfl) ?_
      exact ih.2.1 a0 x5 x38 x39 x40 o4_0 o4_1 o4_2 o4_3 (wrap64 (x49b + 1)) o7j15 
    · intro a0 x5 x38 x39 x40 o4_0 o4_1 o4_2 o4_3 x49b o7b
      simp only [place_Beside.l1]
      refine RS.go ?_
      refine RT.br rfl (fun c16 => ?_) (fun c16 => ?_)
      · refine RT.br rfl (fun c5 => ?_) (fun c5 => RT.none)
        refine RT.br rfl (fun c6 => ?_) (fun c6 => RT.none)
        refine RT.goto rfl ?_
        refine RS.draw rfl ?_
        refine RD.call (CR := []) (CW := (fun r => [])) rfl (fun _ h => place_around.ok (wrap64 (o4_1 + (rd [wrap64 (0 - x5), 0, x5] x49b))) _ h) (fun i => i) trivial (fun _ => rfl) ⟨_, _, _, _, rfl, rfl, rfl⟩ (LeL.eq rfl) trivial (fun _ => rfl) (fun r7 => ?_)
        refine RD.fin place_Beside.k0 place_Beside.k1 rfl rfl (by decide +kernel) ?_
        refine RS.go ?_
        refine RT.brN rfl (fun c15 => ?_) (fun c15 => ?_)
        · refine RT.brF rfl ?_
          refine RT.brF rfl ?_
          refine RT.brN rfl (fun c14 => ?_) (fun c14 => ?_)
          · refine RT.brF rfl ?_
            refine RT.brF rfl ?_
            refine RT.brF rfl ?_
            refine RT.brF rfl ?_
            refine RT.brF rfl ?_
            refine RT.goto rfl ?_
            refine RS.weak [(0, .str a0), (4, .ref 4 0 0 0 4), (5, .int .i64 x5), (7, .osl 7 e_II.w 0 o7b.length o7b.length), (9, .int .i64 (rd x38 x40)), (38, sq eI x38), (39, .int .i64 x39), (40, .int .i64 x40), (47, sq eI [wrap64 (0 - x5), 0, x5]), (48, .int .i64 ([wrap64 (0 - x5), 0, x5].length : Int)), (49, .int .i64 x49b)] [(4, .box [.int .i64 o4_0, .int .i64 o4_1, .int .i64 o4_2, .int .i64 o4_3]), (7, bufE e_II o7b)] ⟨Le.eq (by first | rfl | simp), Le.eq (by first | rfl | simp), Le.eq (by first | rfl | simp), (by first | exact Le.oslN rfl (by first | rfl | simp) | exact Le.refl _ | exact Le.eq (by first | rfl | simp)), Le.eq (by first | rfl | simp), Le.eq (by first | rfl | simp), Le.eq (by first | rfl | simp), Le.eq (by first | rfl | simp), Le.eq (by first | rfl | simp), Le.eq (by first | rfl | simp), Le.eq (by first | rfl | simp), trivial⟩ ⟨⟨_, rfl, LeO.refl _⟩, ⟨_, rfl, LeO.refl _⟩, trivial⟩ rfl (dom0 rfl) ?_
            exact ih.1 a0 x5 x38 x39 x40 o4_0 o4_1 o4_2 o4_3 x49b o7b 
          · refine RT.brT rfl ?_
            refine RT.brT rfl ?_
            refine RT.call0 rfl (fun _ h => kit_Outside.ok (wrap64 (o4_0 + (rd x38 x40))) (-324000) 323999 _ h) (LeL.eq rfl) (fun _ => rfl) (fun r11 => ?_)
            refine RS.go ?_
            refine RT.brT rfl ?_
            refine RT.brT rfl ?_
            refine RT.brBN rfl (fun c13 => ?_) (fun c13 => ?_)
            · refine RT.goto rfl ?_
              refine RS.weak [(0, .str a0), (4, .ref 4 0 0 0 4), (5, .int .i64 x5), (7, .osl 7 e_II.w 0 o7b.length o7b.length), (9, .int .i64 (rd x38 x40)), (38, sq eI x38), (39, .int .i64 x39), (40, .int .i64 x40), (47, sq eI [wrap64 (0 - x5), 0, x5]), (48, .int .i64 ([wrap64 (0 - x5), 0, x5].length : Int)), (49, .int .i64 x49b)] [(4, .box [.int .i64 o4_0, .int .i64 o4_1, .int .i64 o4_2, .int .i64 o4_3]), (7, bufE e_II o7b)] ⟨Le.eq (by first | rfl | simp), Le.eq (by first | rfl | simp), Le.eq (by first | rfl | simp), (by first | exact Le.oslN rfl (by first | rfl | simp) | exact Le.refl _ | exact Le.eq (by first | rfl | simp)), Le.eq (by first | rfl | simp), Le.eq (by first | rfl | simp), Le.eq (by first | rfl | simp), Le.eq (by first | rfl | simp), Le.eq (by first | rfl | simp), Le.eq (by first | rfl | simp), Le.eq (by first | rfl | simp), trivial⟩ ⟨⟨_, rfl, LeO.refl _⟩, ⟨_, rfl, LeO.refl _⟩, trivial⟩ rfl (dom0 rfl) ?_
              exact ih.1 a0 x5 x38 x39 x40 o4_0 o4_1 o4_2 o4_3 x49b o7b 
            · refine RT.goto rfl ?_
              refine RS.slot 79 (sq e_II [(wrap64 (o4_0 + (rd x38 x40)), r7)]) (Le.lit (E := e_II) (l := [(wrap64 (o4_0 + (rd x38 x40)), r7)]) (cells_of rfl)) ?_
              refine RS.go ?_
              refine RT.req rfl ⟨by first | rfl | simp, by first | exact Nat.le_refl _ | simp⟩ ?_
              refine RT.not rfl (by simp <;> omega) ?_
              refine RT.br rfl (fun c12 => ?_) (fun _ => RT.none)
              refine RT.goto rfl ?_
              refine RS.obj 7 (bufE e_II (o7b ++ [(wrap64 (o4_0 + (rd x38 x40)), r7)])) ⟨_, rfl, LeO.app (l := o7b) (m := [(wrap64 (o4_0 + (rd x38 x40)), r7)]) fun _ _ _ _ => rfl⟩ ?_
              refine RS.slot 80 (.osl 7 e_II.w 0 (o7b ++ [(wrap64 (o4_0 + (rd x38 x40)), r7)]).length (o7b ++ [(wrap64 (o4_0 + (rd x38 x40)), r7)]).length) (by first | exact Le.oslN rfl (by simp) | exact Le.trans (y := .osl 7 e_II.w 0 (o7b.length + 1) (o7b.length + 1)) (Le.refl _) (Le.oslN rfl (by simp))) ?_
              refine RS.go ?_
              refine RT.goto rfl ?_
              refine RS.weak [(0, .str a0), (4, .ref 4 0 0 0 4), (5, .int .i64 x5), (7, .osl 7 e_II.w 0 (o7b ++ [(wrap64 (o4_0 + (rd x38 x40)), r7)]).length (o7b ++ [(wrap64 (o4_0 + (rd x38 x40)), r7)]).length), (9, .int .i64 (rd x38 x40)), (38, sq eI x38), (39, .int .i64 x39), (40, .int .i64 x40), (47, sq eI [wrap64 (0 - x5), 0, x5]), (48, .int .i64 ([wrap64 (0 - x5), 0, x5].length : Int)), (49, .int .i64 x49b)] [(4, .box [.int .i64 o4_0, .int .i64 o4_1, .int .i64 o4_2, .int .i64 o4_3]), (7, bufE e_II (o7b ++ [(wrap64 (o4_0 + (rd x38 x40)), r7)]))] ⟨Le.eq (by first | rfl | simp), Le.eq (by first | rfl | simp), Le.eq (by first | rfl | simp), (by first | exact Le.oslN rfl (by first | rfl | simp) | exact Le.refl _ | exact Le.eq (by first | rfl | simp)), Le.eq (by first | rfl | simp), Le.eq (by first | rfl | simp), Le.eq (by first | rfl | simp), Le.eq (by first | rfl | simp), Le.eq (by first | rfl | simp), Le.eq (by first | rfl | simp), Le.eq (by first | rfl | simp), trivial⟩ ⟨⟨_, rfl, LeO.refl _⟩, ⟨_, rfl, LeO.refl _⟩, trivial⟩ rfl (dom0 rfl) ?_
              exact ih.1 a0 x5 x38 x39 x40 o4_0 o4_1 o4_2 o4_3 x49b (o7b ++ [(wrap64 (o4_0 + (rd x38 x40)), r7)]) 
        · refine RT.brT rfl ?_
          refine RT.brT rfl ?_
          refine RT.brT rfl ?_
          refine RT.brT rfl ?_
          refine RT.brT rfl ?_
          refine RT.call0 rfl (fun _ h => kit_Outside.ok (wrap64 (o4_0 + (rd x38 x40))) (-324000) 323999 _ h) (LeL.eq rfl) (fun _ => rfl) (fun r8 => ?_)
          refine RS.go ?_
          refine RT.brT rfl ?_
          refine RT.brT rfl ?_
          refine RT.brBN rfl (fun c10 => ?_) (fun c10 => ?_)
          · refine RT.goto rfl ?_
            refine RS.weak [(0, .str a0), (4, .ref 4 0 0 0 4), (5, .int .i64 x5), (7, .osl 7 e_II.w 0 o7b.length o7b.length), (9, .int .i64 (rd x38 x40)), (38, sq eI x38), (39, .int .i64 x39), (40, .int .i64 x40), (47, sq eI [wrap64 (0 - x5), 0, x5]), (48, .int .i64 ([wrap64 (0 - x5), 0, x5].length : Int)), (49, .int .i64 x49b)] [(4, .box [.int .i64 o4_0, .int .i64 o4_1, .int .i64 o4_2, .int .i64 o4_3]), (7, bufE e_II o7b)] ⟨Le.eq (by first | rfl | simp), Le.eq (by first | rfl | simp), Le.eq (by first | rfl | simp), (by first | exact Le.oslN rfl (by first | rfl | simp) | exact Le.refl _ | exact Le.eq (by first | rfl | simp)), Le.eq (by first | rfl | simp), Le.eq (by first | rfl | simp), Le.eq (by first | rfl | simp), Le.eq (by first | rfl | simp), Le.eq (by first | rfl | simp), Le.eq (by first | rfl | simp), Le.eq (by first | rfl | simp), trivial⟩ ⟨⟨_, rfl, LeO.refl _⟩, ⟨_, rfl, LeO.refl _⟩, trivial⟩ rfl (dom0 rfl) ?_
            exact ih.1 a0 x5 x38 x39 x40 o4_0 o4_1 o4_2 o4_3 x49b o7b 
          · refine RT.goto rfl ?_
            refine RS.slot 79 (sq e_II [(wrap64 (o4_0 + (rd x38 x40)), r7)]) (Le.lit (E := e_II) (l := [(wrap64 (o4_0 + (rd x38 x40)), r7)]) (cells_of rfl)) ?_
            refine RS.go ?_
            refine RT.req rfl ⟨by first | rfl | simp, by first | exact Nat.le_refl _ | simp⟩ ?_
            refine RT.not rfl (by simp <;> omega) ?_
            refine RT.br rfl (fun c9 => ?_) (fun _ => RT.none)
            refine RT.goto rfl ?_
            refine RS.obj 7 (bufE e_II (o7b ++ [(wrap64 (o4_0 + (rd x38 x40)), r7)])) ⟨_, rfl, LeO.app (l := o7b) (m := [(wrap64 (o4_0 + (rd x38 x40)), r7)]) fun _ _ _ _ => rfl⟩ ?_
            refine RS.slot 80 (.osl 7 e_II.w 0 (o7b ++ [(wrap64 (o4_0 + (rd x38 x40)), r7)]).length (o7b ++ [(wrap64 (o4_0 + (rd x38 x40)), r7)]).length) (by first | exact Le.oslN rfl (by simp) | exact Le.trans (y := .osl 7 e_II.w 0 (o7b.length + 1) (o7b.length + 1)) (Le.refl _) (Le.oslN rfl (by simp))) ?_
            refine RS.go ?_
            refine RT.goto rfl ?_
            refine RS.weak [(0, .str a0), (4, .ref 4 0 0 0 4), (5, .int .i64 x5), (7, .osl 7 e_II.w 0 (o7b ++ [(wrap64 (o4_0 + (rd x38 x40)), r7)]).length (o7b ++ [(wrap64 (o4_0 + (rd x38 x40)), r7)]).length), (9, .int .i64 (rd x38 x40)), (38, sq eI x38), (39, .int .i64 x39), (40, .int .i64 x40), (47, sq eI [wrap64 (0 - x5), 0, x5]), (48, .int .i64 ([wrap64 (0 - x5), 0, x5].length : Int)), (49, .int .i64 x49b)] [(4, .box [.int .i64 o4_0, .int .i64 o4_1, .int .i64 o4_2, .int .i64 o4_3]), (7, bufE e_II (o7b ++ [(wrap64 (o4_0 + (rd x38 x40)), r7)]))] ⟨Le.eq (by first | rfl | simp), Le.eq (by first | rfl | simp), Le.eq (by first | rfl | simp), (by first | exact Le.oslN rfl (by first | rfl | simp) | exact Le.refl _ | exact Le.eq (by first | rfl | simp)), Le.eq (by first | rfl | simp), Le.eq (by first | rfl | simp), Le.eq (by first | rfl | simp), Le.eq (by first | rfl | simp), Le.eq (by first | rfl | simp), Le.eq (by first | rfl | simp), Le.eq (by first | rfl | simp), trivial⟩ ⟨⟨_, rfl, LeO.refl _⟩, ⟨_, rfl, LeO.refl _⟩, trivial⟩ rfl (dom0 rfl) ?_
            exact ih.1 a0 x5 x38 x39 x40 o4_0 o4_1 o4_2 o4_3 x49b (o7b ++ [(wrap64 (o4_0 + (rd x38 x40)), r7)]) 
      · refine RT.goto rfl ?_
        refine RS.weak [(0, .str a0), (4, .ref 4 0 0 0 4), (5, .int .i64 x5), (7, .osl 7 e_II.w 0 o7b.length o7b.length), (38, sq eI x38), (39, .int .i64 x39), (40, .int .i64 (wrap64 (x40 + 1)))] [(4, .box [.int .i64 o4_0, .int .i64 o4_1, .int .i64 o4_2, .int .i64 o4_3]), (7, bufE e_II o7b)] ⟨Le.eq (by first | rfl | simp), Le.eq (by first | rfl | simp), Le.eq (by first | rfl | simp), (by first | exact Le.oslN rfl (by first | rfl | simp) | exact Le.refl _ | exact Le.eq (by first | rfl | simp)), Le.eq (by first | rfl | simp), Le.eq (by first | rfl | simp), Le.eq (by first | rfl | simp), trivial⟩ ⟨⟨_, rfl, LeO.refl _⟩, ⟨_, rfl, LeO.refl _⟩, trivial⟩ rfl (dom0 rfl) ?_
        exact ih.2.2.2 a0 x5 x38 x39 (wrap64 (x40 + 1)) o4_0 o4_1 o4_2 o4_3 o7b 
    · intro a0 x86c x87c o7c o13c
      simp only [place_Beside.l2]
      refine RS.go ?_
      refine RT.br rfl (fun c23 => ?_) (fun c23 => ?_)
      · refine RT.req rfl (by first | exact Nat.zero_add _ | rfl | simp) ?_
        refine RT.br rfl (fun c19 => ?_) (fun c19 => RT.none)
        refine RT.br rfl (fun c20 => ?_) (fun c20 => RT.none)
        refine RT.req rfl ⟨by first | rfl | simp, elt_lt c19 (by first | exact c20 | simpa using c20)⟩ ?_
        refine RT.call0 rfl (fun _ h => place_locator.ok k ((rdE e_II o7c x87c).1) ((rdE e_II o7c x87c).2) (a0.size : Int) _ h) (LeL.eq rfl) (fun _ => rfl) (fun r21 => ?_)
        refine RS.go ?_
        refine RT.goto rfl ?_
        refine RS.slot 96 (sq eS [r21]) (Le.lit (E := eS) (l := [r21]) (cells_of rfl)) ?_
        refine RS.go ?_
        refine RT.req rfl ⟨by first | rfl | simp, by first | exact Nat.le_refl _ | simp⟩ ?_
        refine RT.not rfl (by simp <;> omega) ?_
        refine RT.br rfl (fun c22 => ?_) (fun _ => RT.none)
        refine RT.goto rfl ?_
        refine RS.obj 13 (bufE eS (o13c ++ [r21])) ⟨_, rfl, LeO.app (l := o13c) (m := [r21]) fun _ _ _ _ => rfl⟩ ?_
        refine RS.slot 97 (.osl 13 eS.w 0 (o13c ++ [r21]).length (o13c ++ [r21]).length) (by first | exact Le.oslN rfl (by simp) | exact Le.trans (y := .osl 13 eS.w 0 (o13c.length + 1) (o13c.length + 1)) (Le.refl _) (Le.oslN rfl (by simp))) ?_
        refine RS.go ?_
        refine RT.goto rfl ?_
        refine RS.weak [(0, .str a0), (13, .osl 13 eS.w 0 (o13c ++ [r21]).length (o13c ++ [r21]).length), (85, .osl 7 e_II.w 0 o7c.length o7c.length), (86, .int .i64 x86c), (87, .int .i64 (wrap64 (x87c + 1)))] [(7, bufE e_II o7c), (13, bufE eS (o13c ++ [r21]))] ⟨Le.eq (by first | rfl | simp), (by first | exact Le.oslN rfl (by first | rfl | simp) | exact Le.refl _ | exact Le.eq (by first | rfl | simp)), (by first | exact Le.oslN rfl (by first | rfl | simp) | exact Le.refl _ | exact Le.eq (by first | rfl | simp)), Le.eq (by first | rfl | simp), Le.eq (by first | rfl | simp), trivial⟩ ⟨⟨_, rfl, LeO.refl _⟩, ⟨_, rfl, LeO.refl _⟩, trivial⟩ rfl (dom0 rfl) ?_
        exact ih.2.2.1 a0 x86c (wrap64 (x87c + 1)) o7c (o13c ++ [r21]) 
      · refine RT.freeze 13 _ _ _ [(2, sq eS o13c), (3, .int .i64 0)] [] rfl rfl ⟨.inr ⟨_, rfl, by first | exact Nat.le_refl _ | simp, rfl⟩, .inl (Le.refl _), trivial⟩ trivial rfl (dom0 rfl) ?_
        exact RT.done rfl rfl (Le.tup (LeL.cons (Le.refl _) (LeL.cons (Le.refl _) (LeL.nil)))) trivial rfl (dom0 rfl)
    · intro a0 x5 x38 x39 x40 o4_0 o4_1 o4_2 o4_3 o7
      simp only [place_Beside.l0]
      refine RS.go ?_
      refine RT.br rfl (fun c24 => ?_) (fun c24 => ?_)
      · refine RT.br rfl (fun c3 => ?_) (fun c3 => RT.none)
        refine RT.br rfl (fun c4 => ?_) (fun c4 => RT.none)
        refine RT.goto rfl ?_
        refine RS.slot 47 (sq eI [wrap64 (0 - x5), 0, x5]) (Le.lit (E := eI) (l := [wrap64 (0 - x5), 0, x5]) (cells_of rfl)) ?_
        refine RS.go ?_
        refine RT.goto rfl ?_
        refine RS.weak [(0, .str a0), (4, .ref 4 0 0 0 4), (5, .int .i64 x5), (7, .osl 7 e_II.w 0 o7.length o7.length), (9, .int .i64 (rd x38 x40)), (38, sq eI x38), (39, .int .i64 x39), (40, .int .i64 x40), (47, sq eI [wrap64 (0 - x5), 0, x5]), (48, .int .i64 ([wrap64 (0 - x5), 0, x5].length : Int)), (49, .int .i64 0)] [(4, .box [.int .i64 o4_0, .int .i64 o4_1, .int .i64 o4_2, .int .i64 o4_3]), (7, bufE e_II o7)] ⟨Le.eq (by first | rfl | simp), Le.eq (by first | rfl | simp), Le.eq (by first | rfl | simp), (by first | exact Le.oslN rfl (by first | rfl | simp) | exact Le.refl _ | exact Le.eq (by first | rfl | simp)), Le.eq (by first | rfl | simp), Le.eq (by first | rfl | simp), Le.eq (by first | rfl | simp), Le.eq (by first | rfl | simp), Le.eq (by first | rfl | simp), Le.eq (by first | rfl | simp), Le.eq (by first | rfl | simp), trivial⟩ ⟨⟨_, rfl, LeO.refl _⟩, ⟨_, rfl, LeO.refl _⟩, trivial⟩ rfl (dom0 rfl) ?_
        exact ih.2.1 a0 x5 x38 x39 x40 o4_0 o4_1 o4_2 o4_3 0 o7 
      · refine RT.call rfl (fun _ h => slices_SortFunc_api_Site_api_Site_of_place_Beside_1.ok k o7 _ h) (fun i => bif Nat.beq i 100000 then 7 else i) (LeL.eq rfl) ⟨⟨_, rfl, LeO.refl _⟩, trivial⟩ (fun _ => rfl) (fun r17 => ?_)
        refine RS.asm (fun c18 => ?_)
        refine RS.slot 7 (.osl 7 e_II.w 0 r17.length r17.length) (Le.oslN rfl c18) ?_
        refine RS.slot 83 (.osl 7 e_II.w 0 r17.length r17.length) (Le.oslN rfl c18) ?_
        refine RS.go ?_
        refine RT.req rfl (by first | exact Nat.zero_add _ | rfl | simp [szf, szOf]) ?_
        refine RT.goto rfl ?_
        refine RS.ghost 13 13 eS.w (rep eS []) rfl rfl ?_
        refine RS.weak [(0, .str a0), (13, .osl 13 eS.w 0 ([] : List ByteArray).length ([] : List ByteArray).length), (85, .osl 7 e_II.w 0 r17.length r17.length), (86, .int .i64 (r17.length : Int)), (87, .int .i64 0)] [(7, bufE e_II r17), (13, bufE eS ([] : List ByteArray))] ⟨Le.eq (by first | rfl | simp), (by first | exact Le.oslN rfl (by first | rfl | simp) | exact Le.refl _ | exact Le.eq (by first | rfl | simp)), (by first | exact Le.oslN rfl (by first | rfl | simp) | exact Le.refl _ | exact Le.eq (by first | rfl | simp)), Le.eq (by first | rfl | simp), Le.eq (by first | rfl | simp), trivial⟩ ⟨⟨_, rfl, LeO.refl _⟩, ⟨_, rfl, LeO.refl _⟩, trivial⟩ rfl (dom0 rfl) ?_
        exact ih.2.2.1 a0 (r17.length : Int) 0 r17 [] 
theorem place_Beside.ok (k : Nat) (a0 : ByteArray) (r : (List ByteArray) × Int) (h : place_Beside.f k a0 = some r) : Ct Tryz.prog B 15 [.str a0] (ofL []) (.tup [sq eS r.1, .int .i64 r.2]) (ofL []) := by
  refine Ct.of (Y := (fam Tryz.f15 [15] [] [] (fun r : (List ByteArray) × Int => .tup [sq eS r.1, .int .i64 r.2]) (fun r => []))) Tryz.func15 rfl Tryz.call15 rfl rfl ?_ r h
  unfold place_Beside.f
  refine RS.go ?_
  refine RT.call0 rfl (fun _ h => place_IsLocator.ok k a0 _ h) (LeL.eq rfl) (fun _ => rfl) (fun r1 => ?_)
  refine RS.go ?_
  refine RT.brBN rfl (fun c25 => ?_) (fun c25 => ?_)
  · refine RT.call0 rfl (fun _ h => place_area.ok k a0 _ h) (LeL.eq rfl) (fun _ => rfl) (fun r2 => ?_)
    refine RS.go ?_
    refine RT.goto rfl ?_
    refine RS.draw rfl ?_
    refine RD.fin place_Beside.k2 place_Beside.k3 rfl rfl (by decide +kernel) ?_
    refine RS.go ?_
    refine RT.goto rfl ?_
    refine RS.slot 38 (sq eI [wrap64 (0 - (wrap64 (r2.2.2.1 - r2.1))), 0, wrap64 (r2.2.2.1 - r2.1)]) (Le.lit (E := eI) (l := [wrap64 (0 - (wrap64 (r2.2.2.1 - r2.1))), 0, wrap64 (r2.2.2.1 - r2.1)]) (cells_of rfl)) ?_
    refine RS.go ?_
    refine RT.goto rfl ?_
    refine RS.ghost 7 7 e_II.w (rep e_II []) rfl rfl ?_
    refine RS.weak [(0, .str a0), (4, .ref 4 0 0 0 4), (5, .int .i64 (wrap64 (r2.2.2.2 - r2.2.1))), (7, .osl 7 e_II.w 0 ([] : List (Int × Int)).length ([] : List (Int × Int)).length), (38, sq eI [wrap64 (0 - (wrap64 (r2.2.2.1 - r2.1))), 0, wrap64 (r2.2.2.1 - r2.1)]), (39, .int .i64 ([wrap64 (0 - (wrap64 (r2.2.2.1 - r2.1))), 0, wrap64 (r2.2.2.1 - r2.1)].length : Int)), (40, .int .i64 0)] [(4, .box [.int .i64 r2.1, .int .i64 r2.2.1, .int .i64 r2.2.2.1, .int .i64 r2.2.2.2]), (7, bufE e_II ([] : List (Int × Int)))] ⟨Le.eq (by first | rfl | simp), Le.eq (by first | rfl | simp), Le.eq (by first | rfl | simp), (by first | exact Le.oslN rfl (by first | rfl | simp) | exact Le.refl _ | exact Le.eq (by first | rfl | simp)), Le.eq (by first | rfl | simp), Le.eq (by first | rfl | simp), Le.eq (by first | rfl | simp), trivial⟩ ⟨⟨_, rfl, LeO.refl _⟩, ⟨_, rfl, LeO.refl _⟩, trivial⟩ rfl (dom0 rfl) ?_
    exact (place_Beside.loops k).2.2.2 a0 (wrap64 (r2.2.2.2 - r2.2.1)) [wrap64 (0 - (wrap64 (r2.2.2.1 - r2.1))), 0, wrap64 (r2.2.2.1 - r2.1)] ([wrap64 (0 - (wrap64 (r2.2.2.1 - r2.1))), 0, wrap64 (r2.2.2.1 - r2.1)].length : Int) 0 r2.1 r2.2.1 r2.2.2.1 r2.2.2.2 [] 
  · exact RT.done rfl rfl (Le.tup (LeL.cons (Le.nil _ _) (LeL.cons (Le.refl _) (LeL.nil)))) trivial rfl (dom0 rfl)
/-! ### pileref1_sizeOf: function 45 -/
def pileref1_sizeOf.f (a0 : Int) : Option (Int) := (if a0 = 2 then Option.some 72000 else (if a0 = 4 then Option.some 7200 else Option.some 300))
theorem pileref1_sizeOf.ok (a0 : Int) (r : Int) (h : pileref1_sizeOf.f a0 = some r) : Ct Tryz.prog B 45 [.int .i64 a0] (ofL []) (.int .i64 r) (ofL []) := by
  refine Ct.of (Y := (fam Tryz.f45 [] [] [] (fun r : Int => .int .i64 r) (fun r => []))) Tryz.func45 rfl Tryz.call45 rfl rfl ?_ r h
  unfold pileref1_sizeOf.f
  refine RS.go ?_
  refine RT.br rfl (fun c2 => ?_) (fun c2 => ?_)
  · exact RT.done rfl rfl (Le.refl _) trivial rfl (dom0 rfl)
  · refine RT.br rfl (fun c1 => ?_) (fun c1 => ?_)
    · exact RT.done rfl rfl (Le.refl _) trivial rfl (dom0 rfl)
    · exact RT.done rfl rfl (Le.refl _) trivial rfl (dom0 rfl)
/-! ### pileref1_AreaFor: function 16 -/
def pileref1_AreaFor.k0 : List DK := [⟨[45, 44], [3], [], [3]⟩, ⟨[3], [3], [45], []⟩, ⟨[33, 43], [], [44], []⟩, ⟨[42], [], [43], []⟩, ⟨[40, 41], [], [42], []⟩, ⟨[5], [], [41], []⟩, ⟨[39], [], [40], []⟩, ⟨[37, 38], [], [39], []⟩, ⟨[6], [], [38], []⟩, ⟨[34, 36], [], [37], []⟩, ⟨[35], [], [36], []⟩, ⟨[4], [], [35], []⟩, ⟨[0], [], [34], []⟩, ⟨[32], [3], [33], []⟩, ⟨[3], [3], [32], []⟩]
def pileref1_AreaFor.k1 : List Nat := [0, 1, 0, 0, 8, 28, 0, 124, 252, 0, 1020, 2044, 4095, 8191, 16383]
def pileref1_AreaFor.k2 : List DK := [⟨[31, 30], [3], [], [3]⟩, ⟨[3], [3], [31], []⟩, ⟨[21, 29], [], [30], []⟩, ⟨[27, 28], [], [29], []⟩, ⟨[5], [], [28], []⟩, ⟨[26], [], [27], []⟩, ⟨[24, 25], [], [26], []⟩, ⟨[6], [], [25], []⟩, ⟨[22, 23], [], [24], []⟩, ⟨[4], [], [23], []⟩, ⟨[0], [], [22], []⟩, ⟨[20], [3], [21], []⟩, ⟨[3], [3], [20], []⟩]
def pileref1_AreaFor.k3 : List Nat := [0, 1, 0, 0, 12, 0, 60, 124, 0, 508, 1023, 2047, 4095]
mutual
def pileref1_AreaFor.j9 : Nat → ByteArray → Int → Int → Int → Int → Int → Option (Int × Int × Int × Int)
  | 0, _, _, _, _, _, _ => Option.none
  | k + 1, a0, x4, o3_0, o3_1, x5j9, x6j9 => (if 0 ≤ x4 then (if x4 < (a0.size : Int) then (if 0 ≤ wrap64 (x4 + 1) then (if wrap64 (x4 + 1) < (a0.size : Int) then pileref1_AreaFor.l0 k a0 (wrap64 (x4 + 2)) (wrap64 (o3_0 + (wrap64 (Int.tdiv (wrap64 ((wrap64 (((bt a0 (wrap64 (x4 + 1))) - x6j9) % 256)) * x5j9)) 2)))) (wrap64 (o3_1 + (wrap64 ((wrap64 (((bt a0 x4) - x6j9) % 256)) * x5j9)))) else Option.none) else Option.none) else Option.none) else Option.none)
def pileref1_AreaFor.l0 : Nat → ByteArray → Int → Int → Int → Option (Int × Int × Int × Int)
  | 0, _, _, _, _ => Option.none
  | k + 1, a0, x4, o3_0, o3_1 => (if x4 < (a0.size : Int) then ((pileref1_sizeOf.f (wrap64 (x4 + 2))).bind fun r1 => (if x4 = 2 then pileref1_AreaFor.j9 k a0 x4 o3_0 o3_1 r1 48 else pileref1_AreaFor.j9 k a0 x4 o3_0 o3_1 r1 97)) else ((pileref1_sizeOf.f (a0.size : Int)).bind fun r7 => Option.some (o3_0, o3_1, wrap64 (o3_0 + (wrap64 (Int.tdiv r7 2))), wrap64 (o3_1 + r7))))
end
def pileref1_AreaFor.f (k : Nat) (a0 : ByteArray) : Option (Int × Int × Int × Int) := pileref1_AreaFor.l0 k a0 0 (-324000) (-648000)
theorem pileref1_AreaFor.loops : ∀ k, (∀ (a0 : ByteArray) (x4 : Int) (o3_0 : Int) (o3_1 : Int) (x5j9 : Int) (x6j9 : Int), RS (fam Tryz.f16 [9] [] [] (fun r : Int × Int × Int × Int => .agg [.int .i64 r.1, .int .i64 r.2.1, .int .i64 r.2.2.1, .int .i64 r.2.2.2]) (fun r => [])) (Func.reg Tryz.f16 9) ⟨ofT [(0, .str a0), (2, .ref 2 0 0 0 4), (3, .ref 3 0 0 0 2), (4, .int .i64 x4), (5, .int .i64 x5j9), (6, .int .u8 x6j9)], ofL [(2, .box [.int .i64 0, .int .i64 0, .int .i64 0, .int .i64 0]), (3, .box [.int .i64 o3_0, .int .i64 o3_1])]⟩ (pileref1_AreaFor.j9 k a0 x4 o3_0 o3_1 x5j9 x6j9)) ∧ (∀ (a0 : ByteArray) (x4 : Int) (o3_0 : Int) (o3_1 : Int), RS (fam Tryz.f16 [9] [] [] (fun r : Int × Int × Int × Int => .agg [.int .i64 r.1, .int .i64 r.2.1, .int .i64 r.2.2.1, .int .i64 r.2.2.2]) (fun r => [])) (Func.head Tryz.f16 0) ⟨ofT [(0, .str a0), (2, .ref 2 0 0 0 4), (3, .ref 3 0 0 0 2), (4, .int .i64 x4)], ofL [(2, .box [.int .i64 0, .int .i64 0, .int .i64 0, .int .i64 0]), (3, .box [.int .i64 o3_0, .int .i64 o3_1])]⟩ (pileref1_AreaFor.l0 k a0 x4 o3_0 o3_1))
  | 0 => ⟨by intro _ _ _ _ _ _; simp only [pileref1_AreaFor.j9]; exact RS.none, by intro _ _ _ _; simp only [pileref1_AreaFor.l0]; exact RS.none⟩
  | k + 1 => by
    have ih := pileref1_AreaFor.loops k
    refine ⟨?_, ?_⟩
    · intro a0 x4 o3_0 o3_1 x5j9 x6j9
      simp only [pileref1_AreaFor.j9]
      refine RS.draw rfl ?_
      refine RD.br rfl (fun c2 => ?_) (fun c2 => RD.none)
      refine RD.br rfl (fun c3 => ?_) (fun c3 => RD.none)
      refine RD.fin pileref1_AreaFor.k2 pileref1_AreaFor.k3 rfl rfl (by decide +kernel) ?_
      refine RS.go ?_
      refine RT.goto rfl ?_
      refine RS.draw rfl ?_
      refine RD.br rfl (fun c4 => ?_) (fun c4 => RD.none)
      refine RD.br rfl (fun c5 => ?_) (fun c5 => RD.none)
      refine RD.brF rfl ?_
      refine RD.fin pileref1_AreaFor.k0 pileref1_AreaFor.k1 rfl rfl (by decide +kernel) ?_
      refine RS.go ?_
      refine RT.goto rfl ?_
      refine RS.weak [(0, .str a0), (2, .ref 2 0 0 0 4), (3, .ref 3 0 0 0 2), (4, .int .i64 (wrap64 (x4 + 2)))] [(2, .box [.int .i64 0, .int .i64 0, .int .i64 0, .int .i64 0]), (3, .box [.int .i64 (wrap64 (o3_0 + (wrap64 (Int.tdiv (wrap64 ((wrap64 (((bt a0 (wrap64 (x4 + 1))) - x6j9) % 256)) * x5j9)) 2)))), .int .i64 (wrap64 (o3_1 + (wrap64 ((wrap64 (((bt a0 x4) - x6j9) % 256)) * x5j9))))])] ⟨Le.eq (by first | rfl | simp), Le.eq (by first | rfl | simp), Le.eq (by first | rfl | simp), Le.eq (by first | rfl | simp), trivial⟩ ⟨⟨_, rfl, LeO.refl _⟩, ⟨_, rfl, LeO.refl _⟩, trivial⟩ rfl (dom0 rfl) ?_
      exact ih.2 a0 (wrap64 (x4 + 2)) (wrap64 (o3_0 + (wrap64 (Int.tdiv (wrap64 ((wrap64 (((bt a0 (wrap64 (x4 + 1))) - x6j9) % 256)) * x5j9)) 2)))) (wrap64 (o3_1 + (wrap64 ((wrap64 (((bt a0 x4) - x6j9) % 256)) * x5j9)))) 
    · intro a0 x4 o3_0 o3_1
      simp only [pileref1_AreaFor.l0]
      refine RS.go ?_
      refine RT.br rfl (fun c8 => ?_) (fun c8 => ?_)
      · refine RT.call0 rfl (fun _ h => pileref1_sizeOf.ok (wrap64 (x4 + 2)) _ h) (LeL.eq rfl) (fun _ => rfl) (fun r1 => ?_)
        refine RS.go ?_
        refine RT.br rfl (fun c6 => ?_) (fun c6 => ?_)
        · refine RT.goto rfl ?_
          refine RS.weak [(0, .str a0), (2, .ref 2 0 0 0 4), (3, .ref 3 0 0 0 2), (4, .int .i64 x4), (5, .int .i64 r1), (6, .int .u8 48)] [(2, .box [.int .i64 0, .int .i64 0, .int .i64 0, .int .i64 0]), (3, .box [.int .i64 o3_0, .int .i64 o3_1])] ⟨Le.eq (by first | rfl | simp), Le.eq (by first | rfl | simp), Le.eq (by first | rfl | simp), Le.eq (by first | rfl | simp), Le.eq (by first | rfl | simp), Le.eq (by first | rfl | simp), trivial⟩ ⟨⟨_, rfl, LeO.refl _⟩, ⟨_, rfl, LeO.refl _⟩, trivial⟩ rfl (dom0 rfl) ?_
          exact ih.1 a0 x4 o3_0 o3_1 r1 48 
        · refine RT.goto rfl ?_
          refine RS.weak [(0, .str a0), (2, .ref 2 0 0 0 4), (3, .ref 3 0 0 0 2), (4, .int .i64 x4), (5, .int .i64 r1), (6, .int .u8 97)] [(2, .box [.int .i64 0, .int .i64 0, .int .i64 0, .int .i64 0]), (3, .box [.int .i64 o3_0, .int .i64 o3_1])] ⟨Le.eq (by first | rfl | simp), Le.eq (by first | rfl | simp), Le.eq (by first | rfl | simp), Le.eq (by first | rfl | simp), Le.eq (by first | rfl | simp), Le.eq (by first | rfl | simp), trivial⟩ ⟨⟨_, rfl, LeO.refl _⟩, ⟨_, rfl, LeO.refl _⟩, trivial⟩ rfl (dom0 rfl) ?_
          exact ih.1 a0 x4 o3_0 o3_1 r1 97 
      · refine RT.call0 rfl (fun _ h => pileref1_sizeOf.ok (a0.size : Int) _ h) (LeL.eq rfl) (fun _ => rfl) (fun r7 => ?_)
        refine RS.go ?_
        refine RT.brF rfl ?_
        exact RT.done rfl rfl (Le.refl _) trivial rfl (dom0 rfl)
theorem pileref1_AreaFor.ok (k : Nat) (a0 : ByteArray) (r : Int × Int × Int × Int) (h : pileref1_AreaFor.f k a0 = some r) : Ct Tryz.prog B 16 [.str a0] (ofL []) (.agg [.int .i64 r.1, .int .i64 r.2.1, .int .i64 r.2.2.1, .int .i64 r.2.2.2]) (ofL []) := by
  refine Ct.of (Y := (fam Tryz.f16 [9] [] [] (fun r : Int × Int × Int × Int => .agg [.int .i64 r.1, .int .i64 r.2.1, .int .i64 r.2.2.1, .int .i64 r.2.2.2]) (fun r => []))) Tryz.func16 rfl Tryz.call16 rfl rfl ?_ r h
  unfold pileref1_AreaFor.f
  refine RS.go ?_
  refine RT.goto rfl ?_
  refine RS.weak [(0, .str a0), (2, .ref 2 0 0 0 4), (3, .ref 3 0 0 0 2), (4, .int .i64 0)] [(2, .box [.int .i64 0, .int .i64 0, .int .i64 0, .int .i64 0]), (3, .box [.int .i64 (-324000), .int .i64 (-648000)])] ⟨Le.eq (by first | rfl | simp), Le.eq (by first | rfl | simp), Le.eq (by first | rfl | simp), Le.eq (by first | rfl | simp), trivial⟩ ⟨⟨_, rfl, LeO.refl _⟩, ⟨_, rfl, LeO.refl _⟩, trivial⟩ rfl (dom0 rfl) ?_
  exact (pileref1_AreaFor.loops k).2 a0 0 (-324000) (-648000) 
/-! ### pileref1_MiddleOf: function 17 -/
def pileref1_MiddleOf.f (k : Nat) (a0 : ByteArray) : Option (Int × Int) := ((pileref1_AreaFor.f k a0).bind fun r1 => Option.some (wrap64 (Int.tdiv (wrap64 (r1.1 + r1.2.2.1)) 2), wrap64 (Int.tdiv (wrap64 (r1.2.1 + r1.2.2.2)) 2)))
theorem pileref1_MiddleOf.ok (k : Nat) (a0 : ByteArray) (r : Int × Int) (h : pileref1_MiddleOf.f k a0 = some r) : Ct Tryz.prog B 17 [.str a0] (ofL []) (.agg [.int .i64 r.1, .int .i64 r.2]) (ofL []) := by
  refine Ct.of (Y := (fam Tryz.f17 [] [] [] (fun r : Int × Int => .agg [.int .i64 r.1, .int .i64 r.2]) (fun r => []))) Tryz.func17 rfl Tryz.call17 rfl rfl ?_ r h
  unfold pileref1_MiddleOf.f
  refine RS.go ?_
  refine RT.call0 rfl (fun _ h => pileref1_AreaFor.ok k a0 _ h) (LeL.eq rfl) (fun _ => rfl) (fun r1 => ?_)
  refine RS.go ?_
  refine RT.brF rfl ?_
  refine RT.brF rfl ?_
  exact RT.done rfl rfl (Le.refl _) trivial rfl (dom0 rfl)
/-! ### pileref1_around: function 46 -/
def pileref1_around.j4 : Nat → Int → Option (Int)
  | 0, _ => Option.none
  | k + 1, x3j4 => Option.some (wrap64 (x3j4 - 648000))
def pileref1_around.f (k : Nat) (a0 : Int) : Option (Int) := (if Int.tmod (wrap64 (a0 + 648000)) 1296000 < 0 then pileref1_around.j4 k (wrap64 ((Int.tmod (wrap64 (a0 + 648000)) 1296000) + 1296000)) else pileref1_around.j4 k (Int.tmod (wrap64 (a0 + 648000)) 1296000))
theorem pileref1_around.loops : ∀ k, (∀ (x3j4 : Int), RS (fam Tryz.f46 [4] [] [] (fun r : Int => .int .i64 r) (fun r => [])) (Func.reg Tryz.f46 4) ⟨ofT [(3, .int .i64 x3j4)], ofL []⟩ (pileref1_around.j4 k x3j4))
  | 0 => by intro _; simp only [pileref1_around.j4]; exact RS.none
  | k + 1 => by
    have ih := pileref1_around.loops k
    · intro x3j4
      simp only [pileref1_around.j4]
      refine RS.region ?_
      refine RS.go ?_
      exact RT.done rfl rfl (Le.refl _) trivial rfl (dom0 rfl)
theorem pileref1_around.ok (k : Nat) (a0 : Int) (r : Int) (h : pileref1_around.f k a0 = some r) : Ct Tryz.prog B 46 [.int .i64 a0] (ofL []) (.int .i64 r) (ofL []) := by
  refine Ct.of (Y := (fam Tryz.f46 [4] [] [] (fun r : Int => .int .i64 r) (fun r => []))) Tryz.func46 rfl Tryz.call46 rfl rfl ?_ r h
  unfold pileref1_around.f
  refine RS.go ?_
  refine RT.brF rfl ?_
  refine RT.br rfl (fun c1 => ?_) (fun c1 => ?_)
  · refine RT.goto rfl ?_
    refine RS.weak [(3, .int .i64 (wrap64 ((Int.tmod (wrap64 (a0 + 648000)) 1296000) + 1296000)))] [] ⟨Le.eq (by first | rfl | simp), trivial⟩ trivial rfl (dom0 rfl) ?_
    exact pileref1_around.loops k (wrap64 ((Int.tmod (wrap64 (a0 + 648000)) 1296000) + 1296000)) 
  · refine RT.goto rfl ?_
    refine RS.weak [(3, .int .i64 (Int.tmod (wrap64 (a0 + 648000)) 1296000))] [] ⟨Le.eq (by first | rfl | simp), trivial⟩ trivial rfl (dom0 rfl) ?_
    exact pileref1_around.loops k (Int.tmod (wrap64 (a0 + 648000)) 1296000) 
/-! ### cmp_isNaN_int: function 63 -/
def cmp_isNaN_int.f (a0 : Int) : Option (Bool) := Option.some (!decide (a0 = a0))
theorem cmp_isNaN_int.ok (a0 : Int) (r : Bool) (h : cmp_isNaN_int.f a0 = some r) : Ct Tryz.prog B 63 [.int .i64 a0] (ofL []) (.bool r) (ofL []) := by
  refine Ct.of (Y := (fam Tryz.f63 [] [] [] (fun r : Bool => .bool r) (fun r => []))) Tryz.func63 rfl Tryz.call63 rfl rfl ?_ r h
  unfold cmp_isNaN_int.f
  refine RS.go ?_
  exact RT.done rfl rfl (Le.refl _) trivial rfl (dom0 rfl)
/-! ### cmp_Compare_int: function 50 -/
def cmp_Compare_int.f (a0 : Int) (a1 : Int) : Option (Int) := ((cmp_isNaN_int.f a0).bind fun r1 => ((cmp_isNaN_int.f a1).bind fun r2 => (if r1 = true then (if r2 = true then Option.some 0 else Option.some (-1)) else (if r2 = true then Option.some 1 else (if a0 < a1 then Option.some (-1) else (if a0 > a1 then Option.some 1 else Option.some 0))))))
theorem cmp_Compare_int.ok (a0 : Int) (a1 : Int) (r : Int) (h : cmp_Compare_int.f a0 a1 = some r) : Ct Tryz.prog B 50 [.int .i64 a0, .int .i64 a1] (ofL []) (.int .i64 r) (ofL []) := by
  refine Ct.of (Y := (fam Tryz.f50 [] [] [] (fun r : Int => .int .i64 r) (fun r => []))) Tryz.func50 rfl Tryz.call50 rfl rfl ?_ r h
  unfold cmp_Compare_int.f
  refine RS.go ?_
  refine RT.call0 rfl (fun _ h => cmp_isNaN_int.ok a0 _ h) (LeL.eq rfl) (fun _ => rfl) (fun r1 => ?_)
  refine RS.go ?_
  refine RT.call0 rfl (fun _ h => cmp_isNaN_int.ok a1 _ h) (LeL.eq rfl) (fun _ => rfl) (fun r2 => ?_)
  refine RS.go ?_
  refine RT.brB rfl (fun c7 => ?_) (fun c7 => ?_)
  · refine RT.brB rfl (fun c3 => ?_) (fun c3 => ?_)
    · exact RT.done rfl rfl (Le.refl _) trivial rfl (dom0 rfl)
    · exact RT.done rfl rfl (Le.refl _) trivial rfl (dom0 rfl)
  · refine RT.brB rfl (fun c6 => ?_) (fun c6 => ?_)
    · exact RT.done rfl rfl (Le.refl _) trivial rfl (dom0 rfl)
    · refine RT.br rfl (fun c5 => ?_) (fun c5 => ?_)
      · exact RT.done rfl rfl (Le.refl _) trivial rfl (dom0 rfl)
      · refine RT.br rfl (fun c4 => ?_) (fun c4 => ?_)
        · exact RT.done rfl rfl (Le.refl _) trivial rfl (dom0 rfl)
        · exact RT.done rfl rfl (Le.refl _) trivial rfl (dom0 rfl)
/-! ### cmp_Or_int: function 49 -/
def cmp_Or_int.l0 : Nat → List Int → Int → Option (Int)
  | 0, _, _ => Option.none
  | k + 1, l0, x8 => (if x8 < (l0.length : Int) then (if 0 ≤ x8 then (if x8 < (l0.length : Int) then (if (rd l0 x8) = 0 then cmp_Or_int.l0 k l0 (wrap64 (x8 + 1)) else Option.some (rd l0 x8)) else Option.none) else Option.none) else Option.some 0)
def cmp_Or_int.f (k : Nat) (l0 : List Int) : Option (Int) := cmp_Or_int.l0 k l0 0
theorem cmp_Or_int.loops : ∀ k, (∀ (l0 : List Int) (x8 : Int), RS (fam Tryz.f49 [] [] [] (fun r : Int => .int .i64 r) (fun r => [])) (Func.head Tryz.f49 0) ⟨ofT [(3, .int .i64 0), (6, sq eI l0), (7, .int .i64 (l0.length : Int)), (8, .int .i64 x8)], ofL []⟩ (cmp_Or_int.l0 k l0 x8))
  | 0 => by intro _ _; simp only [cmp_Or_int.l0]; exact RS.none
  | k + 1 => by
    have ih := cmp_Or_int.loops k
    · intro l0 x8
      simp only [cmp_Or_int.l0]
      refine RS.go ?_
      refine RT.br rfl (fun c4 => ?_) (fun c4 => ?_)
      · refine RT.br rfl (fun c1 => ?_) (fun c1 => RT.none)
        refine RT.br rfl (fun c2 => ?_) (fun c2 => RT.none)
        refine RT.brN rfl (fun c3 => ?_) (fun c3 => ?_)
        · refine RT.goto rfl ?_
          refine RS.weak [(3, .int .i64 0), (6, sq eI l0), (7, .int .i64 (l0.length : Int)), (8, .int .i64 (wrap64 (x8 + 1)))] [] ⟨Le.eq (by first | rfl | simp), Le.eq (by first | rfl | simp), Le.eq (by first | rfl | simp), Le.eq (by first | rfl | simp), trivial⟩ trivial rfl (dom0 rfl) ?_
          exact ih l0 (wrap64 (x8 + 1)) 
        · exact RT.done rfl rfl (Le.refl _) trivial rfl (dom0 rfl)
      · exact RT.done rfl rfl (Le.refl _) trivial rfl (dom0 rfl)
theorem cmp_Or_int.ok (k : Nat) (l0 : List Int) (r : Int) (h : cmp_Or_int.f k l0 = some r) : Ct Tryz.prog B 49 [sq eI l0] (ofL []) (.int .i64 r) (ofL []) := by
  refine Ct.of (Y := (fam Tryz.f49 [] [] [] (fun r : Int => .int .i64 r) (fun r => []))) Tryz.func49 rfl Tryz.call49 rfl rfl ?_ r h
  unfold cmp_Or_int.f
  refine RS.go ?_
  refine RT.goto rfl ?_
  refine RS.weak [(3, .int .i64 0), (6, sq eI l0), (7, .int .i64 (l0.length : Int)), (8, .int .i64 0)] [] ⟨Le.eq (by first | rfl | simp), Le.eq (by first | rfl | simp), Le.eq (by first | rfl | simp), Le.eq (by first | rfl | simp), trivial⟩ trivial rfl (dom0 rfl) ?_
  exact cmp_Or_int.loops k l0 0 
/-! ### pileref1_BesideOf_1: function 48 -/
def pileref1_BesideOf_1.k0 : List DK := [⟨[24], [], [4], []⟩, ⟨[23], [], [24], []⟩, ⟨[17, 22], [23], [23], []⟩, ⟨[19, 21], [], [22], []⟩, ⟨[20], [6], [21], []⟩, ⟨[6], [6], [20], []⟩, ⟨[18], [5], [19], []⟩, ⟨[5], [5], [18], []⟩, ⟨[14, 16], [], [17], []⟩, ⟨[15], [6], [16], []⟩, ⟨[6], [6], [15], []⟩, ⟨[13], [5], [14], []⟩, ⟨[5], [5], [13], []⟩]
def pileref1_BesideOf_1.k1 : List Nat := [0, 1, 0, 4, 15, 0, 32, 0, 128, 511, 1023, 2047, 4095]
def pileref1_BesideOf_1.f (k : Nat) (a0 : ByteArray) (a1 : ByteArray) : Option (Int) := ((pileref1_AreaFor.f k a0).bind fun r1 => ((pileref1_AreaFor.f k a1).bind fun r2 => ((cmp_Compare_int.f r1.1 r2.1).bind fun r3 => ((cmp_Compare_int.f r1.2.1 r2.2.1).bind fun r4 => ((cmp_Or_int.f k [r3, r4]).bind fun r5 => Option.some r5)))))
theorem pileref1_BesideOf_1.ok (k : Nat) (a0 : ByteArray) (a1 : ByteArray) (r : Int) (h : pileref1_BesideOf_1.f k a0 a1 = some r) : Ct Tryz.prog B 48 [.str a0, .str a1] (ofL []) (.int .i64 r) (ofL []) := by
  refine Ct.of (Y := (fam Tryz.f48 [] [] [] (fun r : Int => .int .i64 r) (fun r => []))) Tryz.func48 rfl Tryz.call48 rfl rfl ?_ r h
  unfold pileref1_BesideOf_1.f
  refine RS.go ?_
  refine RT.call0 rfl (fun _ h => pileref1_AreaFor.ok k a0 _ h) (LeL.eq rfl) (fun _ => rfl) (fun r1 => ?_)
  refine RS.go ?_
  refine RT.call0 rfl (fun _ h => pileref1_AreaFor.ok k a1 _ h) (LeL.eq rfl) (fun _ => rfl) (fun r2 => ?_)
  refine RS.go ?_
  refine RT.goto rfl ?_
  refine RS.draw rfl ?_
  refine RD.call (CR := []) (CW := (fun r => [])) rfl (fun _ h => cmp_Compare_int.ok r1.1 r2.1 _ h) (fun i => i) trivial (fun _ => rfl) ⟨_, _, _, _, rfl, rfl, rfl⟩ (LeL.eq rfl) trivial (fun _ => rfl) (fun r3 => ?_)
  refine RD.call (CR := []) (CW := (fun r => [])) rfl (fun _ h => cmp_Compare_int.ok r1.2.1 r2.2.1 _ h) (fun i => i) trivial (fun _ => rfl) ⟨_, _, _, _, rfl, rfl, rfl⟩ (LeL.eq rfl) trivial (fun _ => rfl) (fun r4 => ?_)
  refine RD.call (CR := []) (CW := (fun r => [])) rfl (fun _ h => cmp_Or_int.ok k [r3, r4] _ h) (fun i => i) trivial (fun _ => rfl) ⟨_, _, _, _, rfl, rfl, rfl⟩ (LeL.cons (Le.lit (E := eI) (l := [r3, r4]) (cells_of rfl)) (LeL.nil)) trivial (fun _ => rfl) (fun r5 => ?_)
  refine RD.fin pileref1_BesideOf_1.k0 pileref1_BesideOf_1.k1 rfl rfl (by decide +kernel) ?_
  refine RS.go ?_
  exact RT.done rfl rfl (Le.refl _) trivial rfl (dom0 rfl)
/-! ### slices_insertionSortCmpFunc_string_of_pileref1_BesideOf_1: function 82 -/
def slices_insertionSortCmpFunc_string_of_pileref1_BesideOf_1.k0 : List DK := [⟨[52, 50], [100000], [], [100000]⟩, ⟨[39, 41], [100000], [52], []⟩, ⟨[51, 46], [100000], [], [100000]⟩, ⟨[37, 38], [100000], [51], []⟩, ⟨[49], [100000], [50], []⟩, ⟨[47, 48], [100000], [49], []⟩, ⟨[9], [], [48], []⟩, ⟨[0], [], [47], []⟩, ⟨[45], [100000], [46], []⟩, ⟨[42, 44], [100000], [45], []⟩, ⟨[43], [], [44], []⟩, ⟨[9], [], [43], []⟩, ⟨[0], [], [42], []⟩, ⟨[40], [], [41], []⟩, ⟨[9], [], [40], []⟩, ⟨[0], [], [39], []⟩, ⟨[9], [], [38], []⟩, ⟨[0], [], [37], []⟩]
def slices_insertionSortCmpFunc_string_of_pileref1_BesideOf_1.k1 : List Nat := [0, 0, 0, 0, 8, 0, 0, 64, 224, 480, 0, 0, 3072, 7168, 16355, 32739, 65535, 131071]
def slices_insertionSortCmpFunc_string_of_pileref1_BesideOf_1.k2 : List DK := [⟨[21, 33], [], [34], []⟩, ⟨[21, 32], [], [33], []⟩, ⟨[21, 22, 26, 31], [], [32], []⟩, ⟨[21, 30], [100000], [31], []⟩, ⟨[21, 27, 29], [100000], [30], []⟩, ⟨[21, 28], [], [29], []⟩, ⟨[21, 9], [], [28], []⟩, ⟨[21, 0], [], [27], []⟩, ⟨[21, 25], [100000], [26], []⟩, ⟨[21, 23, 24], [100000], [25], []⟩, ⟨[21, 9], [], [24], []⟩, ⟨[21, 0], [], [23], []⟩, ⟨[21, 3], [], [22], []⟩, ⟨[20], [], [21], []⟩, ⟨[18, 19], [], [20], []⟩, ⟨[1], [], [19], []⟩, ⟨[9], [], [18], []⟩]
def slices_insertionSortCmpFunc_string_of_pileref1_BesideOf_1.k3 : List Nat := [0, 0, 3, 7, 15, 15, 15, 111, 239, 15, 15, 1039, 3599, 7695, 16383, 32767, 65535]
def slices_insertionSortCmpFunc_string_of_pileref1_BesideOf_1.k4 : List DK := [⟨[21, 33], [], [34], []⟩, ⟨[21], [], [33], []⟩, ⟨[21], [], [32], []⟩, ⟨[21], [], [31], []⟩, ⟨[21], [], [30], []⟩, ⟨[21], [], [29], []⟩, ⟨[21], [], [28], []⟩, ⟨[21], [], [27], []⟩, ⟨[21], [], [26], []⟩, ⟨[21], [], [25], []⟩, ⟨[21], [], [24], []⟩, ⟨[21], [], [23], []⟩, ⟨[21], [], [22], []⟩, ⟨[20], [], [21], []⟩, ⟨[18, 19], [], [20], []⟩, ⟨[1], [], [19], []⟩, ⟨[9], [], [18], []⟩]
mutual
def slices_insertionSortCmpFunc_string_of_pileref1_BesideOf_1.l1 : Nat → Int → Int → Int → Int → List ByteArray → Option ((List ByteArray))
  | 0, _, _, _, _, _ => Option.none
  | k + 1, a1, a2, x8, x9b, o100000b => (if x9b > a1 then (if 0 ≤ x9b then (if x9b < (o100000b.length : Int) then (if 0 ≤ wrap64 (x9b - 1) then (if wrap64 (x9b - 1) < (o100000b.length : Int) then ((pileref1_BesideOf_1.f k (rdE eS o100000b x9b) (rdE eS o100000b (wrap64 (x9b - 1)))).bind fun r5 => (if r5 < 0 then (if 0 ≤ wrap64 (x9b - 1) then (if wrap64 (x9b - 1) < (o100000b.length : Int) then (if 0 ≤ x9b then (if x9b < (o100000b.length : Int) then (if 0 ≤ x9b then (if x9b < (o100000b.length : Int) then (if 0 ≤ wrap64 (x9b - 1) then (if wrap64 (x9b - 1) < (o100000b.length : Int) then slices_insertionSortCmpFunc_string_of_pileref1_BesideOf_1.l1 k a1 a2 x8 (wrap64 (x9b - 1)) ((o100000b.set (x9b).toNat (rdE eS o100000b (wrap64 (x9b - 1)))).set ((wrap64 (x9b - 1))).toNat (rdE eS o100000b x9b)) else Option.none) else Option.none) else Option.none) else Option.none) else Option.none) else Option.none) else Option.none) else Option.none) else slices_insertionSortCmpFunc_string_of_pileref1_BesideOf_1.l0 k a1 a2 (wrap64 (x8 + 1)) o100000b)) else Option.none) else Option.none) else Option.none) else Option.none) else slices_insertionSortCmpFunc_string_of_pileref1_BesideOf_1.l0 k a1 a2 (wrap64 (x8 + 1)) o100000b)
def slices_insertionSortCmpFunc_string_of_pileref1_BesideOf_1.l0 : Nat → Int → Int → Int → List ByteArray → Option ((List ByteArray))
  | 0, _, _, _, _ => Option.none
  | k + 1, a1, a2, x8, o100000 => (if x8 < a2 then slices_insertionSortCmpFunc_string_of_pileref1_BesideOf_1.l1 k a1 a2 x8 x8 o100000 else Option.some o100000)
end
def slices_insertionSortCmpFunc_string_of_pileref1_BesideOf_1.f (k : Nat) (l0 : List ByteArray) (a1 : Int) (a2 : Int) : Option ((List ByteArray)) := slices_insertionSortCmpFunc_string_of_pileref1_BesideOf_1.l0 k a1 a2 (wrap64 (a1 + 1)) l0
theorem slices_insertionSortCmpFunc_string_of_pileref1_BesideOf_1.loops (l0 : List ByteArray) : ∀ k, (∀ (a1 : Int) (a2 : Int) (x8 : Int) (x9b : Int) (o100000b : List ByteArray), RS (fam Tryz.f82 [] [] [(100000, bufE eS l0)] (fun r : (List ByteArray) => .tup []) (fun r => [(100000, bufE eS r)])) (Func.head Tryz.f82 1) ⟨ofT [(0, .osl 100000 eS.w 0 o100000b.length o100000b.length), (1, .int .i64 a1), (2, .int .i64 a2), (3, .fn 48 []), (8, .int .i64 x8), (9, .int .i64 x9b)], ofL [(100000, bufE eS o100000b)]⟩ (slices_insertionSortCmpFunc_string_of_pileref1_BesideOf_1.l1 k a1 a2 x8 x9b o100000b)) ∧ (∀ (a1 : Int) (a2 : Int) (x8 : Int) (o100000 : List ByteArray), RS (fam Tryz.f82 [] [] [(100000, bufE eS l0)] (fun r : (List ByteArray) => .tup []) (fun r => [(100000, bufE eS r)])) (Func.head Tryz.f82 0) ⟨ofT [(0, .osl 100000 eS.w 0 o100000.length o100000.length), (1, .int .i64 a1), (2, .int .i64 a2), (3, .fn 48 []), (8, .int .i64 x8)], ofL [(100000, bufE eS o100000)]⟩ (slices_insertionSortCmpFunc_string_of_pileref1_BesideOf_1.l0 k a1 a2 x8 o100000))
  | 0 => ⟨by intro _ _ _ _ _; simp only [slices_insertionSortCmpFunc_string_of_pileref1_BesideOf_1.l1]; exact RS.none, by intro _ _ _ _; simp only [slices_insertionSortCmpFunc_string_of_pileref1_BesideOf_1.l0]; exact RS.none⟩
  | k + 1 => by
    have ih := slices_insertionSortCmpFunc_string_of_pileref1_BesideOf_1.loops l0 k
    refine ⟨?_, ?_⟩
    · intro a1 a2 x8 x9b o100000b
      simp only [slices_insertionSortCmpFunc_string_of_pileref1_BesideOf_1.l1]
      refine RS.go ?_
      refine RT.goto rfl ?_
      refine RS.draw rfl ?_
      refine RD.br rfl (fun c15 => ?_) (fun c15 => ?_)
      · refine RD.brT rfl ?_
        refine RD.brT rfl ?_
        refine RD.brT rfl ?_
        refine RD.req rfl (by first | exact Nat.zero_add _ | rfl | simp) ?_
        refine RD.br rfl (fun c1 => ?_) (fun c1 => RD.none)
        refine RD.br rfl (fun c2 => ?_) (fun c2 => RD.none)
        refine RD.brT rfl ?_
        refine RD.req rfl ⟨by first | rfl | simp, elt_lt c1 (by first | exact c2 | simpa using c2)⟩ ?_
        refine RD.brT rfl ?_
        refine RD.brT rfl ?_
        refine RD.brT rfl ?_
        refine RD.brT rfl ?_
        refine RD.req rfl (by first | exact Nat.zero_add _ | rfl | simp) ?_
        refine RD.br rfl (fun c3 => ?_) (fun c3 => RD.none)
        refine RD.br rfl (fun c4 => ?_) (fun c4 => RD.none)
        refine RD.brT rfl ?_
        refine RD.req rfl ⟨by first | rfl | simp, elt_lt c3 (by first | exact c4 | simpa using c4)⟩ ?_
        refine RD.brT rfl ?_
        refine RD.call (CR := []) (CW := (fun r => [])) rfl (fun _ h => pileref1_BesideOf_1.ok k (rdE eS o100000b x9b) (rdE eS o100000b (wrap64 (x9b - 1))) _ h) (fun i => i) trivial (fun _ => rfl) ⟨_, _, _, _, rfl, rfl, rfl⟩ (LeL.eq rfl) trivial (fun _ => rfl) (fun r5 => ?_)
        refine RD.brT rfl ?_
        refine RD.brT rfl ?_
        refine RD.fin slices_insertionSortCmpFunc_string_of_pileref1_BesideOf_1.k2 slices_insertionSortCmpFunc_string_of_pileref1_BesideOf_1.k3 rfl rfl (by decide +kernel) ?_
        refine RS.go ?_
        refine RT.br rfl (fun c14 => ?_) (fun c14 => ?_)
        · refine RT.goto rfl ?_
          refine RS.draw rfl ?_
          refine RD.req rfl (by first | exact Nat.zero_add _ | rfl | simp) ?_
          refine RD.br rfl (fun c6 => ?_) (fun c6 => RD.none)
          refine RD.br rfl (fun c7 => ?_) (fun c7 => RD.none)
          refine RD.req rfl ⟨by first | rfl | simp, elt_lt c6 (by first | exact c7 | simpa using c7)⟩ ?_
          refine RD.req rfl (by first | exact Nat.zero_add _ | rfl | simp) ?_
          refine RD.br rfl (fun c8 => ?_) (fun c8 => RD.none)
          refine RD.br rfl (fun c9 => ?_) (fun c9 => RD.none)
          refine RD.req rfl ⟨by first | rfl | simp, elt_lt c8 (by first | exact c9 | simpa using c9)⟩ ?_
          refine RD.req rfl (by first | exact Nat.zero_add _ | rfl | simp) ?_
          refine RD.br rfl (fun c10 => ?_) (fun c10 => RD.none)
          refine RD.br rfl (fun c11 => ?_) (fun c11 => RD.none)
          refine RD.req rfl ⟨by first | rfl | simp, elt_lt c10 (by first | exact c11 | simpa using c11)⟩ ?_
          refine RD.req rfl (by first | exact Nat.zero_add _ | rfl | simp) ?_
          refine RD.br rfl (fun c12 => ?_) (fun c12 => RD.none)
          refine RD.br rfl (fun c13 => ?_) (fun c13 => RD.none)
          refine RD.req rfl ⟨by first | rfl | simp, elt_lt c12 (by first | exact c13 | simpa using c13)⟩ ?_
          refine RD.fin slices_insertionSortCmpFunc_string_of_pileref1_BesideOf_1.k0 slices_insertionSortCmpFunc_string_of_pileref1_BesideOf_1.k1 rfl rfl (by decide +kernel) ?_
          refine RS.obj 100000 (bufE eS ((o100000b.set (x9b).toNat (rdE eS o100000b (wrap64 (x9b - 1)))).set ((wrap64 (x9b - 1))).toNat (rdE eS o100000b x9b))) ⟨_, rfl, LeO.setE2 (l := o100000b) (l' := o100000b.set (x9b).toNat (rdE eS o100000b (wrap64 (x9b - 1)))) (by simp) (rep_set c10 (by first | exact c11 | simpa using c11) (all1 rfl)) c12 (by first | exact c13 | simpa using c13) (all1 rfl)⟩ ?_
          refine RS.go ?_
          refine RT.goto rfl ?_
          refine RS.weak [(0, .osl 100000 eS.w 0 ((o100000b.set (x9b).toNat (rdE eS o100000b (wrap64 (x9b - 1)))).set ((wrap64 (x9b - 1))).toNat (rdE eS o100000b x9b)).length ((o100000b.set (x9b).toNat (rdE eS o100000b (wrap64 (x9b - 1)))).set ((wrap64 (x9b - 1))).toNat (rdE eS o100000b x9b)).length), (1, .int .i64 a1), (2, .int .i64 a2), (3, .fn 48 []), (8, .int .i64 x8), (9, .int .i64 (wrap64 (x9b - 1)))] [(100000, bufE eS ((o100000b.set (x9b).toNat (rdE eS o100000b (wrap64 (x9b - 1)))).set ((wrap64 (x9b - 1))).toNat (rdE eS o100000b x9b)))] ⟨(by first | exact Le.oslN rfl (by first | rfl | simp) | exact Le.refl _ | exact Le.eq (by first | rfl | simp)), Le.eq (by first | rfl | simp), Le.eq (by first | rfl | simp), Le.eq (by first | rfl | simp), Le.eq (by first | rfl | simp), Le.eq (by first | rfl | simp), trivial⟩ ⟨⟨_, rfl, LeO.refl _⟩, trivial⟩ rfl (dom_of rfl) ?_
          exact ih.1 a1 a2 x8 (wrap64 (x9b - 1)) ((o100000b.set (x9b).toNat (rdE eS o100000b (wrap64 (x9b - 1)))).set ((wrap64 (x9b - 1))).toNat (rdE eS o100000b x9b)) 
        · refine RT.goto rfl ?_
          refine RS.weak [(0, .osl 100000 eS.w 0 o100000b.length o100000b.length), (1, .int .i64 a1), (2, .int .i64 a2), (3, .fn 48 []), (8, .int .i64 (wrap64 (x8 + 1)))] [(100000, bufE eS o100000b)] ⟨(by first | exact Le.oslN rfl (by first | rfl | simp) | exact Le.refl _ | exact Le.eq (by first | rfl | simp)), Le.eq (by first | rfl | simp), Le.eq (by first | rfl | simp), Le.eq (by first | rfl | simp), Le.eq (by first | rfl | simp), trivial⟩ ⟨⟨_, rfl, LeO.refl _⟩, trivial⟩ rfl (dom_of rfl) ?_
          exact ih.2 a1 a2 (wrap64 (x8 + 1)) o100000b 
      · refine RD.brF rfl ?_
        refine RD.brF rfl ?_
        refine RD.brF rfl ?_
        refine RD.brF rfl ?_
        refine RD.brF rfl ?_
        refine RD.brF rfl ?_
        refine RD.brF rfl ?_
        refine RD.brF rfl ?_
        refine RD.brF rfl ?_
        refine RD.brF rfl ?_
        refine RD.brF rfl ?_
        refine RD.brF rfl ?_
        refine RD.fin slices_insertionSortCmpFunc_string_of_pileref1_BesideOf_1.k4 slices_insertionSortCmpFunc_string_of_pileref1_BesideOf_1.k3 rfl rfl (by decide +kernel) ?_
        refine RS.go ?_
        refine RT.brF rfl ?_
        refine RT.goto rfl ?_
        refine RS.weak [(0, .osl 100000 eS.w 0 o100000b.length o100000b.length), (1, .int .i64 a1), (2, .int .i64 a2), (3, .fn 48 []), (8, .int .i64 (wrap64 (x8 + 1)))] [(100000, bufE eS o100000b)] ⟨(by first | exact Le.oslN rfl (by first | rfl | simp) | exact Le.refl _ | exact Le.eq (by first | rfl | simp)), Le.eq (by first | rfl | simp), Le.eq (by first | rfl | simp), Le.eq (by first | rfl | simp), Le.eq (by first | rfl | simp), trivial⟩ ⟨⟨_, rfl, LeO.refl _⟩, trivial⟩ rfl (dom_of rfl) ?_
        exact ih.2 a1 a2 (wrap64 (x8 + 1)) o100000b 
    · intro a1 a2 x8 o100000
      simp only [slices_insertionSortCmpFunc_string_of_pileref1_BesideOf_1.l0]
      refine RS.go ?_
      refine RT.br rfl (fun c16 => ?_) (fun c16 => ?_)
      · refine RT.goto rfl ?_
        refine RS.weak [(0, .osl 100000 eS.w 0 o100000.length o100000.length), (1, .int .i64 a1), (2, .int .i64 a2), (3, .fn 48 []), (8, .int .i64 x8), (9, .int .i64 x8)] [(100000, bufE eS o100000)] ⟨(by first | exact Le.oslN rfl (by first | rfl | simp) | exact Le.refl _ | exact Le.eq (by first | rfl | simp)), Le.eq (by first | rfl | simp), Le.eq (by first | rfl | simp), Le.eq (by first | rfl | simp), Le.eq (by first | rfl | simp), Le.eq (by first | rfl | simp), trivial⟩ ⟨⟨_, rfl, LeO.refl _⟩, trivial⟩ rfl (dom_of rfl) ?_
        exact ih.1 a1 a2 x8 x8 o100000 
      · exact RT.done rfl rfl (Le.tup (LeL.nil)) ⟨⟨_, rfl, LeO.refl _⟩, trivial⟩ rfl (dom_of rfl)
theorem slices_insertionSortCmpFunc_string_of_pileref1_BesideOf_1.ok (k : Nat) (l0 : List ByteArray) (a1 : Int) (a2 : Int) (r : (List ByteArray)) (h : slices_insertionSortCmpFunc_string_of_pileref1_BesideOf_1.f k l0 a1 a2 = some r) : Ct Tryz.prog B 82 [.osl 100000 eS.w 0 l0.length l0.length, .int .i64 a1, .int .i64 a2, .fn 48 []] (ofL [(100000, bufE eS l0)]) (.tup []) (ofL [(100000, bufE eS r)]) := by
  refine Ct.of (Y := (fam Tryz.f82 [] [] [(100000, bufE eS l0)] (fun r : (List ByteArray) => .tup []) (fun r => [(100000, bufE eS r)]))) Tryz.func82 rfl Tryz.call82 rfl rfl ?_ r h
  unfold slices_insertionSortCmpFunc_string_of_pileref1_BesideOf_1.f
  refine RS.go ?_
  refine RT.goto rfl ?_
  refine RS.weak [(0, .osl 100000 eS.w 0 l0.length l0.length), (1, .int .i64 a1), (2, .int .i64 a2), (3, .fn 48 []), (8, .int .i64 (wrap64 (a1 + 1)))] [(100000, bufE eS l0)] ⟨(by first | exact Le.oslN rfl (by first | rfl | simp) | exact Le.refl _ | exact Le.eq (by first | rfl | simp)), Le.eq (by first | rfl | simp), Le.eq (by first | rfl | simp), Le.eq (by first | rfl | simp), Le.eq (by first | rfl | simp), trivial⟩ ⟨⟨_, rfl, LeO.refl _⟩, trivial⟩ rfl (dom_of rfl) ?_
  exact (slices_insertionSortCmpFunc_string_of_pileref1_BesideOf_1.loops l0 k).2 a1 a2 (wrap64 (a1 + 1)) l0 
/-! ### slices_pdqsortCmpFunc_string_of_pileref1_BesideOf_1: function 62 -/
def slices_pdqsortCmpFunc_string_of_pileref1_BesideOf_1.l0 : Nat → List ByteArray → Int → Int → Int → Option ((List ByteArray))
  | 0, _, _, _, _ => Option.none
  | k + 1, l0, a1, a2, a3 => (if wrap64 (a2 - a1) ≤ 12 then ((slices_insertionSortCmpFunc_string_of_pileref1_BesideOf_1.f k l0 a1 a2).bind fun r1 => (if l0.length = r1.length then Option.some r1 else Option.none)) else Option.none)
def slices_pdqsortCmpFunc_string_of_pileref1_BesideOf_1.f (k : Nat) (l0 : List ByteArray) (a1 : Int) (a2 : Int) (a3 : Int) : Option ((List ByteArray)) := slices_pdqsortCmpFunc_string_of_pileref1_BesideOf_1.l0 k l0 a1 a2 a3
theorem slices_pdqsortCmpFunc_string_of_pileref1_BesideOf_1.loops (l0 : List ByteArray) : ∀ k, (∀ (a1 : Int) (a2 : Int) (a3 : Int), RS (fam Tryz.f62 [] [] [(100000, bufE eS l0)] (fun r : (List ByteArray) => .tup []) (fun r => [(100000, bufE eS r)])) (Func.head Tryz.f62 0) ⟨ofT [(0, .osl 100000 eS.w 0 l0.length l0.length), (1, .int .i64 a1), (2, .int .i64 a2), (3, .int .i64 a3), (4, .fn 48 []), (10, .bool true), (11, .bool true)], ofL [(100000, bufE eS l0)]⟩ (slices_pdqsortCmpFunc_string_of_pileref1_BesideOf_1.l0 k l0 a1 a2 a3))
  | 0 => by intro _ _ _; simp only [slices_pdqsortCmpFunc_string_of_pileref1_BesideOf_1.l0]; exact RS.none
  | k + 1 => by
    have ih := slices_pdqsortCmpFunc_string_of_pileref1_BesideOf_1.loops l0 k
    · intro a1 a2 a3
      simp only [slices_pdqsortCmpFunc_string_of_pileref1_BesideOf_1.l0]
      refine RS.go ?_
      refine RT.br rfl (fun c3 => ?_) (fun c3 => ?_)
      · refine RT.call rfl (fun _ h => slices_insertionSortCmpFunc_string_of_pileref1_BesideOf_1.ok k l0 a1 a2 _ h) (fun i => bif Nat.beq i 100000 then 100000 else i) (LeL.eq rfl) ⟨⟨_, rfl, LeO.refl _⟩, trivial⟩ (fun _ => rfl) (fun r1 => ?_)
        refine RS.asm (fun c2 => ?_)
        refine RS.slot 0 (.osl 100000 eS.w 0 r1.length r1.length) (Le.oslN rfl c2) ?_
        refine RS.slot 26 (.osl 100000 eS.w 0 r1.length r1.length) (Le.oslN rfl c2) ?_
        refine RS.go ?_
        exact RT.done rfl rfl (Le.tup (LeL.nil)) ⟨⟨_, rfl, LeO.refl _⟩, trivial⟩ rfl (dom_of rfl)
      · exact RT.none
theorem slices_pdqsortCmpFunc_string_of_pileref1_BesideOf_1.ok (k : Nat) (l0 : List ByteArray) (a1 : Int) (a2 : Int) (a3 : Int) (r : (List ByteArray)) (h : slices_pdqsortCmpFunc_string_of_pileref1_BesideOf_1.f k l0 a1 a2 a3 = some r) : Ct Tryz.prog B 62 [.osl 100000 eS.w 0 l0.length l0.length, .int .i64 a1, .int .i64 a2, .int .i64 a3, .fn 48 []] (ofL [(100000, bufE eS l0)]) (.tup []) (ofL [(100000, bufE eS r)]) := by
  refine Ct.of (Y := (fam Tryz.f62 [] [] [(100000, bufE eS l0)] (fun r : (List ByteArray) => .tup []) (fun r => [(100000, bufE eS r)]))) Tryz.func62 rfl Tryz.call62 rfl rfl ?_ r h
  unfold slices_pdqsortCmpFunc_string_of_pileref1_BesideOf_1.f
  refine RS.go ?_
  refine RT.goto rfl ?_
  refine RS.weak [(0, .osl 100000 eS.w 0 l0.length l0.length), (1, .int .i64 a1), (2, .int .i64 a2), (3, .int .i64 a3), (4, .fn 48 []), (10, .bool true), (11, .bool true)] [(100000, bufE eS l0)] ⟨(by first | exact Le.oslN rfl (by first | rfl | simp) | exact Le.refl _ | exact Le.eq (by first | rfl | simp)), Le.eq (by first | rfl | simp), Le.eq (by first | rfl | simp), Le.eq (by first | rfl | simp), Le.eq (by first | rfl | simp), Le.eq (by first | rfl | simp), Le.eq (by first | rfl | simp), trivial⟩ ⟨⟨_, rfl, LeO.refl _⟩, trivial⟩ rfl (dom_of rfl) ?_
  exact slices_pdqsortCmpFunc_string_of_pileref1_BesideOf_1.loops l0 k a1 a2 a3 
/-! ### slices_SortFunc_string_string_of_pileref1_BesideOf_1: function 47 -/
def slices_SortFunc_string_string_of_pileref1_BesideOf_1.f (k : Nat) (l0 : List ByteArray) : Option ((List ByteArray)) := ((math_bits_Len.f k (IntKind.u64.wrap ((l0.length : Int)))).bind fun r1 => ((slices_pdqsortCmpFunc_string_of_pileref1_BesideOf_1.f k l0 0 (l0.length : Int) r1).bind fun r2 => (if l0.length = r2.length then Option.some r2 else Option.none)))
theorem slices_SortFunc_string_string_of_pileref1_BesideOf_1.ok (k : Nat) (l0 : List ByteArray) (r : (List ByteArray)) (h : slices_SortFunc_string_string_of_pileref1_BesideOf_1.f k l0 = some r) : Ct Tryz.prog B 47 [.osl 100000 eS.w 0 l0.length l0.length, .fn 48 []] (ofL [(100000, bufE eS l0)]) (.tup []) (ofL [(100000, bufE eS r)]) := by
  refine Ct.of (Y := (fam Tryz.f47 [] [] [(100000, bufE eS l0)] (fun r : (List ByteArray) => .tup []) (fun r => [(100000, bufE eS r)]))) Tryz.func47 rfl Tryz.call47 rfl rfl ?_ r h
  unfold slices_SortFunc_string_string_of_pileref1_BesideOf_1.f
  refine RS.go ?_
  refine RT.req rfl (by first | exact Nat.zero_add _ | rfl | simp [szf, szOf]) ?_
  refine RT.call0 rfl (fun _ h => math_bits_Len.ok k (IntKind.u64.wrap ((l0.length : Int))) _ h) (LeL.eq rfl) (fun _ => rfl) (fun r1 => ?_)
  refine RS.go ?_
  refine RT.call rfl (fun _ h => slices_pdqsortCmpFunc_string_of_pileref1_BesideOf_1.ok k l0 0 (l0.length : Int) r1 _ h) (fun i => bif Nat.beq i 100000 then 100000 else i) (LeL.eq rfl) ⟨⟨_, rfl, LeO.refl _⟩, trivial⟩ (fun _ => rfl) (fun r2 => ?_)
  refine RS.asm (fun c3 => ?_)
  refine RS.slot 0 (.osl 100000 eS.w 0 r2.length r2.length) (Le.oslN rfl c3) ?_
  refine RS.slot 5 (.osl 100000 eS.w 0 r2.length r2.length) (Le.oslN rfl c3) ?_
  refine RS.slot 7 (.osl 100000 eS.w 0 r2.length r2.length) (Le.oslN rfl c3) ?_
  refine RS.go ?_
  exact RT.done rfl rfl (Le.tup (LeL.nil)) ⟨⟨_, rfl, LeO.refl _⟩, trivial⟩ rfl (dom_of rfl)
/-! ### pileref1_BesideOf: function 19 -/
def pileref1_BesideOf.k0 : List DK := [⟨[8, 36], [8], [], [8]⟩, ⟨[], [8, 1000008], [8], [8]⟩, ⟨[28, 35], [], [36], []⟩, ⟨[34], [], [35], []⟩, ⟨[30, 33], [], [34], []⟩, ⟨[31, 32], [], [33], []⟩, ⟨[4], [], [32], []⟩, ⟨[7], [], [31], []⟩, ⟨[29], [3], [30], []⟩, ⟨[3], [3], [29], []⟩, ⟨[23, 27], [], [28], []⟩, ⟨[26], [], [27], []⟩, ⟨[24, 25], [], [26], []⟩, ⟨[4], [], [25], []⟩, ⟨[6], [], [24], []⟩, ⟨[22], [3], [23], []⟩, ⟨[3], [3], [22], []⟩]
def pileref1_BesideOf.k1 : List Nat := [0, 1, 0, 0, 12, 28, 63, 0, 128, 0, 0, 1536, 3968, 8064, 16383, 0, 65535]
mutual
def pileref1_BesideOf.j8 : Nat → ByteArray → Int → Int → Int → Int → Int → List ByteArray → Option ((List ByteArray))
  | 0, _, _, _, _, _, _, _ => Option.none
  | k + 1, a0, x4, x6, o3_0, o3_1, x7b, o5j8 => pileref1_BesideOf.l1 k a0 x4 x6 o3_0 o3_1 (wrap64 (x7b + 1)) o5j8
def pileref1_BesideOf.l1 : Nat → ByteArray → Int → Int → Int → Int → Int → List ByteArray → Option ((List ByteArray))
  | 0, _, _, _, _, _, _, _ => Option.none
  | k + 1, a0, x4, x6, o3_0, o3_1, x7b, o5b => (if x7b ≤ 1 then ((pileref1_around.f k (wrap64 (o3_1 + (wrap64 (x7b * x4))))).bind fun r3 => ((pileref1_in.f (wrap64 (o3_0 + (wrap64 (Int.tdiv (wrap64 (x6 * x4)) 2)))) (-324000) 324000).bind fun r4 => (if r4 = true then (if x6 = 0 then (if x7b = 0 then pileref1_BesideOf.j8 k a0 x4 x6 o3_0 o3_1 x7b o5b else ((pileref1_LocatorFor.f k (wrap64 (o3_0 + (wrap64 (Int.tdiv (wrap64 (x6 * x4)) 2)))) r3 (a0.size : Int)).bind fun r7 => (if o5b.length + 1 ≤ 549755813888 then pileref1_BesideOf.j8 k a0 x4 x6 o3_0 o3_1 x7b (o5b ++ [r7]) else Option.none))) else ((pileref1_LocatorFor.f k (wrap64 (o3_0 + (wrap64 (Int.tdiv (wrap64 (x6 * x4)) 2)))) r3 (a0.size : Int)).bind fun r5 => (if o5b.length + 1 ≤ 549755813888 then pileref1_BesideOf.j8 k a0 x4 x6 o3_0 o3_1 x7b (o5b ++ [r5]) else Option.none))) else pileref1_BesideOf.j8 k a0 x4 x6 o3_0 o3_1 x7b o5b))) else pileref1_BesideOf.l0 k a0 x4 (wrap64 (x6 + 1)) o3_0 o3_1 o5b)
def pileref1_BesideOf.l0 : Nat → ByteArray → Int → Int → Int → Int → List ByteArray → Option ((List ByteArray))
  | 0, _, _, _, _, _, _ => Option.none
  | k + 1, a0, x4, x6, o3_0, o3_1, o5 => (if x6 ≤ 1 then pileref1_BesideOf.l1 k a0 x4 x6 o3_0 o3_1 (-1) o5 else ((slices_SortFunc_string_string_of_pileref1_BesideOf_1.f k o5).bind fun r13 => (if o5.length = r13.length then Option.some r13 else Option.none)))
end
def pileref1_BesideOf.f (k : Nat) (a0 : ByteArray) : Option ((List ByteArray)) := ((pileref1_MiddleOf.f k a0).bind fun r1 => ((pileref1_sizeOf.f (a0.size : Int)).bind fun r2 => pileref1_BesideOf.l0 k a0 r2 (-1) r1.1 r1.2 []))
theorem pileref1_BesideOf.loops : ∀ k, (∀ (a0 : ByteArray) (x4 : Int) (x6 : Int) (o3_0 : Int) (o3_1 : Int) (x7b : Int) (o5j8 : List ByteArray), RS (fam Tryz.f19 [8] [] [] (fun r : (List ByteArray) => sq eS r) (fun r => [])) (Func.reg Tryz.f19 8) ⟨ofT [(0, .str a0), (3, .ref 3 0 0 0 2), (4, .int .i64 x4), (5, .osl 5 eS.w 0 o5j8.length o5j8.length), (6, .int .i64 x6), (7, .int .i64 x7b)], ofL [(3, .box [.int .i64 o3_0, .int .i64 o3_1]), (5, bufE eS o5j8)]⟩ (pileref1_BesideOf.j8 k a0 x4 x6 o3_0 o3_1 x7b o5j8)) ∧ (∀ (a0 : ByteArray) (x4 : Int) (x6 : Int) (o3_0 : Int) (o3_1 : Int) (x7b : Int) (o5b : List ByteArray), RS (fam Tryz.f19 [8] [] [] (fun r : (List ByteArray) => sq eS r) (fun r => [])) (Func.head Tryz.f19 1) ⟨ofT [(0, .str a0), (3, .ref 3 0 0 0 2), (4, .int .i64 x4), (5, .osl 5 eS.w 0 o5b.length o5b.length), (6, .int .i64 x6), (7, .int .i64 x7b)], ofL [(3, .box [.int .i64 o3_0, .int .i64 o3_1]), (5, bufE eS o5b)]⟩ (pileref1_BesideOf.l1 k a0 x4 x6 o3_0 o3_1 x7b o5b)) ∧ (∀ (a0 : ByteArray) (x4 : Int) (x6 : Int) (o3_0 : Int) (o3_1 : Int) (o5 : List ByteArray), RS (fam Tryz.f19 [8] [] [] (fun r : (List ByteArray) => sq eS r) (fun r => [])) (Func.head Tryz.f19 0) ⟨ofT [(0, .str a0), (3, .ref 3 0 0 0 2), (4, .int .i64 x4), (5, .osl 5 eS.w 0 o5.length o5.length), (6, .int .i64 x6)], ofL [(3, .box [.int .i64 o3_0, .int .i64 o3_1]), (5, bufE eS o5)]⟩ (pileref1_BesideOf.l0 k a0 x4 x6 o3_0 o3_1 o5))
  | 0 => ⟨by intro _ _ _ _ _ _ _; simp only [pileref1_BesideOf.j8]; exact RS.none, by intro _ _ _ _ _ _ _; simp only [pileref1_BesideOf.l1]; exact RS.none, by intro _ _ _ _ _ _; simp only [pileref1_BesideOf.l0]; exact RS.none⟩
  | k + 1 => by
    have ih := pileref1_BesideOf.loops k
    refine ⟨?_, ?_, ?_⟩
    · intro a0 x4 x6 o3_0 o3_1 x7b o5j8
      simp only [pileref1_BesideOf.j8]
      refine RS.region ?_
      refine RS.go ?_
      refine RT.goto rfl ?_
      refine RS.weak [(0, .str a0), (3, .ref 3 0 0 0 2), (4, .int .i64 x4), (5, .osl 5 eS.w 0 o5j8.length o5j8.length), (6, .int .i64 x6), (7, .int .i64 (wrap64 (x7b + 1)))] [(3, .box [.int .i64 o3_0, .int .i64 o3_1]), (5, bufE eS o5j8)] ⟨Le.eq (by first | rfl | simp), Le.eq (by first | rfl | simp), Le.eq (by first | rfl | simp), (by first | exact Le.oslN rfl (by first | rfl | simp) | exact Le.refl _ | exact Le.eq (by first | rfl | simp)), Le.eq (by first | rfl | simp), Le.eq (by first | rfl | simp), trivial⟩ ⟨⟨_, rfl, LeO.refl _⟩, ⟨_, rfl, LeO.refl _⟩, trivial⟩ rfl (dom0 rfl) ?_
      exact ih.2.1 a0 x4 x6 o3_0 o3_1 (wrap64 (x7b + 1)) o5j8 
    · intro a0 x4 x6 o3_0 o3_1 x7b o5b
      simp only [pileref1_BesideOf.l1]
      refine RS.go ?_
      refine RT.br rfl (fun c12 => ?_) (fun c12 => ?_)
      · refine RT.goto rfl ?_
        refine RS.draw rfl ?_
        refine RD.brF rfl ?_
        refine RD.call (CR := []) (CW := (fun r => [])) rfl (fun _ h => pileref1_around.ok k (wrap64 (o3_1 + (wrap64 (x7b * x4)))) _ h) (fun i => i) trivial (fun _ => rfl) ⟨_, _, _, _, rfl, rfl, rfl⟩ (LeL.eq rfl) trivial (fun _ => rfl) (fun r3 => ?_)
        refine RD.fin pileref1_BesideOf.k0 pileref1_BesideOf.k1 rfl rfl (by decide +kernel) ?_
        refine RS.go ?_
        refine RT.call0 rfl (fun _ h => pileref1_in.ok (wrap64 (o3_0 + (wrap64 (Int.tdiv (wrap64 (x6 * x4)) 2)))) (-324000) 324000 _ h) (LeL.eq rfl) (fun _ => rfl) (fun r4 => ?_)
        refine RS.go ?_
        refine RT.brB rfl (fun c11 => ?_) (fun c11 => ?_)
        · refine RT.brT rfl ?_
          refine RT.brT rfl ?_
          refine RT.brN rfl (fun c10 => ?_) (fun c10 => ?_)
          · refine RT.brF rfl ?_
            refine RT.brT rfl ?_
            refine RT.brF rfl ?_
            refine RT.brT rfl ?_
            refine RT.brN rfl (fun c9 => ?_) (fun c9 => ?_)
            · refine RT.goto rfl ?_
              refine RS.weak [(0, .str a0), (3, .ref 3 0 0 0 2), (4, .int .i64 x4), (5, .osl 5 eS.w 0 o5b.length o5b.length), (6, .int .i64 x6), (7, .int .i64 x7b)] [(3, .box [.int .i64 o3_0, .int .i64 o3_1]), (5, bufE eS o5b)] ⟨Le.eq (by first | rfl | simp), Le.eq (by first | rfl | simp), Le.eq (by first | rfl | simp), (by first | exact Le.oslN rfl (by first | rfl | simp) | exact Le.refl _ | exact Le.eq (by first | rfl | simp)), Le.eq (by first | rfl | simp), Le.eq (by first | rfl | simp), trivial⟩ ⟨⟨_, rfl, LeO.refl _⟩, ⟨_, rfl, LeO.refl _⟩, trivial⟩ rfl (dom0 rfl) ?_
              exact ih.1 a0 x4 x6 o3_0 o3_1 x7b o5b 
            · refine RT.call0 rfl (fun _ h => pileref1_LocatorFor.ok k (wrap64 (o3_0 + (wrap64 (Int.tdiv (wrap64 (x6 * x4)) 2)))) r3 (a0.size : Int) _ h) (LeL.eq rfl) (fun _ => rfl) (fun r7 => ?_)
              refine RS.go ?_
              refine RT.goto rfl ?_
              refine RS.slot 53 (sq eS [r7]) (Le.lit (E := eS) (l := [r7]) (cells_of rfl)) ?_
              refine RS.go ?_
              refine RT.req rfl ⟨by first | rfl | simp, by first | exact Nat.le_refl _ | simp⟩ ?_
              refine RT.not rfl (by simp <;> omega) ?_
              refine RT.br rfl (fun c8 => ?_) (fun _ => RT.none)
              refine RT.goto rfl ?_
              refine RS.obj 5 (bufE eS (o5b ++ [r7])) ⟨_, rfl, LeO.app (l := o5b) (m := [r7]) fun _ _ _ _ => rfl⟩ ?_
              refine RS.slot 54 (.osl 5 eS.w 0 (o5b ++ [r7]).length (o5b ++ [r7]).length) (by first | exact Le.oslN rfl (by simp) | exact Le.trans (y := .osl 5 eS.w 0 (o5b.length + 1) (o5b.length + 1)) (Le.refl _) (Le.oslN rfl (by simp))) ?_
              refine RS.go ?_
              refine RT.goto rfl ?_
              refine RS.weak [(0, .str a0), (3, .ref 3 0 0 0 2), (4, .int .i64 x4), (5, .osl 5 eS.w 0 (o5b ++ [r7]).length (o5b ++ [r7]).length), (6, .int .i64 x6), (7, .int .i64 x7b)] [(3, .box [.int .i64 o3_0, .int .i64 o3_1]), (5, bufE eS (o5b ++ [r7]))] ⟨Le.eq (by first | rfl | simp), Le.eq (by first | rfl | simp), Le.eq (by first | rfl | simp), (by first | exact Le.oslN rfl (by first | rfl | simp) | exact Le.refl _ | exact Le.eq (by first | rfl | simp)), Le.eq (by first | rfl | simp), Le.eq (by first | rfl | simp), trivial⟩ ⟨⟨_, rfl, LeO.refl _⟩, ⟨_, rfl, LeO.refl _⟩, trivial⟩ rfl (dom0 rfl) ?_
              exact ih.1 a0 x4 x6 o3_0 o3_1 x7b (o5b ++ [r7]) 
          · refine RT.brT rfl ?_
            refine RT.brT rfl ?_
            refine RT.brT rfl ?_
            refine RT.brT rfl ?_
            refine RT.brT rfl ?_
            refine RT.call0 rfl (fun _ h => pileref1_LocatorFor.ok k (wrap64 (o3_0 + (wrap64 (Int.tdiv (wrap64 (x6 * x4)) 2)))) r3 (a0.size : Int) _ h) (LeL.eq rfl) (fun _ => rfl) (fun r5 => ?_)
            refine RS.go ?_
            refine RT.goto rfl ?_
            refine RS.slot 53 (sq eS [r5]) (Le.lit (E := eS) (l := [r5]) (cells_of rfl)) ?_
            refine RS.go ?_
            refine RT.req rfl ⟨by first | rfl | simp, by first | exact Nat.le_refl _ | simp⟩ ?_
            refine RT.not rfl (by simp <;> omega) ?_
            refine RT.br rfl (fun c6 => ?_) (fun _ => RT.none)
            refine RT.goto rfl ?_
            refine RS.obj 5 (bufE eS (o5b ++ [r5])) ⟨_, rfl, LeO.app (l := o5b) (m := [r5]) fun _ _ _ _ => rfl⟩ ?_
            refine RS.slot 54 (.osl 5 eS.w 0 (o5b ++ [r5]).length (o5b ++ [r5]).length) (by first | exact Le.oslN rfl (by simp) | exact Le.trans (y := .osl 5 eS.w 0 (o5b.length + 1) (o5b.length + 1)) (Le.refl _) (Le.oslN rfl (by simp))) ?_
            refine RS.go ?_
            refine RT.goto rfl ?_
            refine RS.weak [(0, .str a0), (3, .ref 3 0 0 0 2), (4, .int .i64 x4), (5, .osl 5 eS.w 0 (o5b ++ [r5]).length (o5b ++ [r5]).length), (6, .int .i64 x6), (7, .int .i64 x7b)] [(3, .box [.int .i64 o3_0, .int .i64 o3_1]), (5, bufE eS (o5b ++ [r5]))] ⟨Le.eq (by first | rfl | simp), Le.eq (by first | rfl | simp), Le.eq (by first | rfl | simp), (by first | exact Le.oslN rfl (by first | rfl | simp) | exact Le.refl _ | exact Le.eq (by first | rfl | simp)), Le.eq (by first | rfl | simp), Le.eq (by first | rfl | simp), trivial⟩ ⟨⟨_, rfl, LeO.refl _⟩, ⟨_, rfl, LeO.refl _⟩, trivial⟩ rfl (dom0 rfl) ?_
            exact ih.1 a0 x4 x6 o3_0 o3_1 x7b (o5b ++ [r5]) 
        · refine RT.brF rfl ?_
          refine RT.brF rfl ?_
          refine RT.brF rfl ?_
          refine RT.brF rfl ?_
          refine RT.brF rfl ?_
          refine RT.goto rfl ?_
          refine RS.weak [(0, .str a0), (3, .ref 3 0 0 0 2), (4, .int .i64 x4), (5, .osl 5 eS.w 0 o5b.length o5b.length), (6, .int .i64 x6), (7, .int .i64 x7b)] [(3, .box [.int .i64 o3_0, .int .i64 o3_1]), (5, bufE eS o5b)] ⟨Le.eq (by first | rfl | simp), Le.eq (by first | rfl | simp), Le.eq (by first | rfl | simp), (by first | exact Le.oslN rfl (by first | rfl | simp) | exact Le.refl _ | exact Le.eq (by first | rfl | simp)), Le.eq (by first | rfl | simp), Le.eq (by first | rfl | simp), trivial⟩ ⟨⟨_, rfl, LeO.refl _⟩, ⟨_, rfl, LeO.refl _⟩, trivial⟩ rfl (dom0 rfl) ?_
          exact ih.1 a0 x4 x6 o3_0 o3_1 x7b o5b 
      · refine RT.goto rfl ?_
        refine RS.weak [(0, .str a0), (3, .ref 3 0 0 0 2), (4, .int .i64 x4), (5, .osl 5 eS.w 0 o5b.length o5b.length), (6, .int .i64 (wrap64 (x6 + 1)))] [(3, .box [.int .i64 o3_0, .int .i64 o3_1]), (5, bufE eS o5b)] ⟨Le.eq (by first | rfl | simp), Le.eq (by first | rfl | simp), Le.eq (by first | rfl | simp), (by first | exact Le.oslN rfl (by first | rfl | simp) | exact Le.refl _ | exact Le.eq (by first | rfl | simp)), Le.eq (by first | rfl | simp), trivial⟩ ⟨⟨_, rfl, LeO.refl _⟩, ⟨_, rfl, LeO.refl _⟩, trivial⟩ rfl (dom0 rfl) ?_
        exact ih.2.2 a0 x4 (wrap64 (x6 + 1)) o3_0 o3_1 o5b 
    · intro a0 x4 x6 o3_0 o3_1 o5
      simp only [pileref1_BesideOf.l0]
      refine RS.go ?_
      refine RT.br rfl (fun c15 => ?_) (fun c15 => ?_)
      · refine RT.goto rfl ?_
        refine RS.weak [(0, .str a0), (3, .ref 3 0 0 0 2), (4, .int .i64 x4), (5, .osl 5 eS.w 0 o5.length o5.length), (6, .int .i64 x6), (7, .int .i64 (-1))] [(3, .box [.int .i64 o3_0, .int .i64 o3_1]), (5, bufE eS o5)] ⟨Le.eq (by first | rfl | simp), Le.eq (by first | rfl | simp), Le.eq (by first | rfl | simp), (by first | exact Le.oslN rfl (by first | rfl | simp) | exact Le.refl _ | exact Le.eq (by first | rfl | simp)), Le.eq (by first | rfl | simp), Le.eq (by first | rfl | simp), trivial⟩ ⟨⟨_, rfl, LeO.refl _⟩, ⟨_, rfl, LeO.refl _⟩, trivial⟩ rfl (dom0 rfl) ?_
        exact ih.2.1 a0 x4 x6 o3_0 o3_1 (-1) o5 
      · refine RT.call rfl (fun _ h => slices_SortFunc_string_string_of_pileref1_BesideOf_1.ok k o5 _ h) (fun i => bif Nat.beq i 100000 then 5 else i) (LeL.eq rfl) ⟨⟨_, rfl, LeO.refl _⟩, trivial⟩ (fun _ => rfl) (fun r13 => ?_)
        refine RS.asm (fun c14 => ?_)
        refine RS.slot 5 (.osl 5 eS.w 0 r13.length r13.length) (Le.oslN rfl c14) ?_
        refine RS.slot 55 (.osl 5 eS.w 0 r13.length r13.length) (Le.oslN rfl c14) ?_
        refine RS.go ?_
        refine RT.freeze 5 _ _ _ [(2, sq eS r13)] [] rfl rfl ⟨.inr ⟨_, rfl, by first | exact Nat.le_refl _ | simp, rfl⟩, trivial⟩ trivial rfl (dom0 rfl) ?_
        exact RT.done rfl rfl (Le.refl _) trivial rfl (dom0 rfl)
theorem pileref1_BesideOf.ok (k : Nat) (a0 : ByteArray) (r : (List ByteArray)) (h : pileref1_BesideOf.f k a0 = some r) : Ct Tryz.prog B 19 [.str a0] (ofL []) (sq eS r) (ofL []) := by
  refine Ct.of (Y := (fam Tryz.f19 [8] [] [] (fun r : (List ByteArray) => sq eS r) (fun r => []))) Tryz.func19 rfl Tryz.call19 rfl rfl ?_ r h
  unfold pileref1_BesideOf.f
  refine RS.go ?_
  refine RT.call0 rfl (fun _ h => pileref1_MiddleOf.ok k a0 _ h) (LeL.eq rfl) (fun _ => rfl) (fun r1 => ?_)
  refine RS.go ?_
  refine RT.call0 rfl (fun _ h => pileref1_sizeOf.ok (a0.size : Int) _ h) (LeL.eq rfl) (fun _ => rfl) (fun r2 => ?_)
  refine RS.go ?_
  refine RT.goto rfl ?_
  refine RS.ghost 5 5 eS.w (rep eS []) rfl rfl ?_
  refine RS.weak [(0, .str a0), (3, .ref 3 0 0 0 2), (4, .int .i64 r2), (5, .osl 5 eS.w 0 ([] : List ByteArray).length ([] : List ByteArray).length), (6, .int .i64 (-1))] [(3, .box [.int .i64 r1.1, .int .i64 r1.2]), (5, bufE eS ([] : List ByteArray))] ⟨Le.eq (by first | rfl | simp), Le.eq (by first | rfl | simp), Le.eq (by first | rfl | simp), (by first | exact Le.oslN rfl (by first | rfl | simp) | exact Le.refl _ | exact Le.eq (by first | rfl | simp)), Le.eq (by first | rfl | simp), trivial⟩ ⟨⟨_, rfl, LeO.refl _⟩, ⟨_, rfl, LeO.refl _⟩, trivial⟩ rfl (dom0 rfl) ?_
  exact (pileref1_BesideOf.loops k).2.2 a0 r2 (-1) r1.1 r1.2 [] 
/-! ### slices_Equal_string_string: function 18 -/
def slices_Equal_string_string.k0 : List DK := [⟨[19, 23], [], [24], []⟩, ⟨[22], [], [23], []⟩, ⟨[20, 21], [], [22], []⟩, ⟨[5], [], [21], []⟩, ⟨[1], [], [20], []⟩, ⟨[18], [], [19], []⟩, ⟨[16, 17], [], [18], []⟩, ⟨[5], [], [17], []⟩, ⟨[0], [], [16], []⟩]
def slices_Equal_string_string.k1 : List Nat := [0, 0, 3, 7, 0, 0, 48, 112, 255]
def slices_Equal_string_string.l0 : Nat → List ByteArray → List ByteArray → Int → Option (Bool)
  | 0, _, _, _ => Option.none
  | k + 1, l0, l1, x13 => (if x13 < (l0.length : Int) then (if 0 ≤ x13 then (if x13 < (l0.length : Int) then (if 0 ≤ x13 then (if x13 < (l1.length : Int) then (if (rdE eS l0 x13) = (rdE eS l1 x13) then slices_Equal_string_string.l0 k l0 l1 (wrap64 (x13 + 1)) else Option.some false) else Option.none) else Option.none) else Option.none) else Option.none) else Option.some true)
def slices_Equal_string_string.f (k : Nat) (l0 : List ByteArray) (l1 : List ByteArray) : Option (Bool) := (if (l0.length : Int) = (l1.length : Int) then slices_Equal_string_string.l0 k l0 l1 0 else Option.some false)
theorem slices_Equal_string_string.loops : ∀ k, (∀ (l0 : List ByteArray) (l1 : List ByteArray) (x13 : Int), RS (fam Tryz.f18 [] [] [] (fun r : Bool => .bool r) (fun r => [])) (Func.head Tryz.f18 0) ⟨ofT [(0, sq eS l0), (1, sq eS l1), (12, .int .i64 (l0.length : Int)), (13, .int .i64 x13)], ofL []⟩ (slices_Equal_string_string.l0 k l0 l1 x13))
  | 0 => by intro _ _ _; simp only [slices_Equal_string_string.l0]; exact RS.none
  | k + 1 => by
    have ih := slices_Equal_string_string.loops k
    · intro l0 l1 x13
      simp only [slices_Equal_string_string.l0]
      refine RS.go ?_
      refine RT.br rfl (fun c6 => ?_) (fun c6 => ?_)
      · refine RT.goto rfl ?_
        refine RS.draw rfl ?_
        refine RD.br rfl (fun c1 => ?_) (fun c1 => RD.none)
        refine RD.br rfl (fun c2 => ?_) (fun c2 => RD.none)
        refine RD.br rfl (fun c3 => ?_) (fun c3 => RD.none)
        refine RD.br rfl (fun c4 => ?_) (fun c4 => RD.none)
        refine RD.fin slices_Equal_string_string.k0 slices_Equal_string_string.k1 rfl rfl (by decide +kernel) ?_
        refine RS.go ?_
        refine RT.brN rfl (fun c5 => ?_) (fun c5 => ?_)
        · refine RT.goto rfl ?_
          refine RS.weak [(0, sq eS l0), (1, sq eS l1), (12, .int .i64 (l0.length : Int)), (13, .int .i64 (wrap64 (x13 + 1)))] [] ⟨Le.eq (by first | rfl | simp), Le.eq (by first | rfl | simp), Le.eq (by first | rfl | simp), Le.eq (by first | rfl | simp), trivial⟩ trivial rfl (dom0 rfl) ?_
          exact ih l0 l1 (wrap64 (x13 + 1)) 
        · exact RT.done rfl rfl (Le.refl _) trivial rfl (dom0 rfl)
      · exact RT.done rfl rfl (Le.refl _) trivial rfl (dom0 rfl)
theorem slices_Equal_string_string.ok (k : Nat) (l0 : List ByteArray) (l1 : List ByteArray) (r : Bool) (h : slices_Equal_string_string.f k l0 l1 = some r) : Ct Tryz.prog B 18 [sq eS l0, sq eS l1] (ofL []) (.bool r) (ofL []) := by
  refine Ct.of (Y := (fam Tryz.f18 [] [] [] (fun r : Bool => .bool r) (fun r => []))) Tryz.func18 rfl Tryz.call18 rfl rfl ?_ r h
  unfold slices_Equal_string_string.f
  refine RS.go ?_
  refine RT.brN rfl (fun c7 => ?_) (fun c7 => ?_)
  · refine RT.goto rfl ?_
    refine RS.weak [(0, sq eS l0), (1, sq eS l1), (12, .int .i64 (l0.length : Int)), (13, .int .i64 0)] [] ⟨Le.eq (by first | rfl | simp), Le.eq (by first | rfl | simp), Le.eq (by first | rfl | simp), Le.eq (by first | rfl | simp), trivial⟩ trivial rfl (dom0 rfl) ?_
    exact slices_Equal_string_string.loops k l0 l1 0 
  · exact RT.done rfl rfl (Le.refl _) trivial rfl (dom0 rfl)
/-! ### place_Locator: function 20 -/
def place_Locator.f (k : Nat) (a0_0 : Int) (a0_1 : Int) (a1 : Int) : Option (ByteArray × Int) := ((place_CheckSite.f a0_0 a0_1).bind fun r1 => (if r1 = 0 then (if a1 = 2 then ((place_locator.f k a0_0 a0_1 a1).bind fun r6 => Option.some (r6, 0)) else (if a1 = 4 then ((place_locator.f k a0_0 a0_1 a1).bind fun r4 => Option.some (r4, 0)) else (if a1 = 6 then ((place_locator.f k a0_0 a0_1 a1).bind fun r2 => Option.some (r2, 0)) else Option.some ((⟨#[]⟩ : ByteArray), 1)))) else Option.some ((⟨#[]⟩ : ByteArray), r1)))
theorem place_Locator.ok (k : Nat) (a0_0 : Int) (a0_1 : Int) (a1 : Int) (r : ByteArray × Int) (h : place_Locator.f k a0_0 a0_1 a1 = some r) : Ct Tryz.prog B 20 [.agg [.int .i64 a0_0, .int .i64 a0_1], .int .i64 a1] (ofL []) (.tup [.str r.1, .int .i64 r.2]) (ofL []) := by
  refine Ct.of (Y := (fam Tryz.f20 [] [] [] (fun r : ByteArray × Int => .tup [.str r.1, .int .i64 r.2]) (fun r => []))) Tryz.func20 rfl Tryz.call20 rfl rfl ?_ r h
  unfold place_Locator.f
  refine RS.go ?_
  refine RT.call0 rfl (fun _ h => place_CheckSite.ok a0_0 a0_1 _ h) (LeL.eq rfl) (fun _ => rfl) (fun r1 => ?_)
  refine RS.go ?_
  refine RT.brN rfl (fun c8 => ?_) (fun c8 => ?_)
  · refine RT.brN rfl (fun c7 => ?_) (fun c7 => ?_)
    · refine RT.brF rfl ?_
      refine RT.brF rfl ?_
      refine RT.brF rfl ?_
      refine RT.brF rfl ?_
      refine RT.brF rfl ?_
      refine RT.brF rfl ?_
      refine RT.call0 rfl (fun _ h => place_locator.ok k a0_0 a0_1 a1 _ h) (LeL.eq rfl) (fun _ => rfl) (fun r6 => ?_)
      refine RS.go ?_
      exact RT.done rfl rfl (Le.tup (LeL.cons (Le.refl _) (LeL.cons (Le.refl _) (LeL.nil)))) trivial rfl (dom0 rfl)
    · refine RT.brT rfl ?_
      refine RT.brT rfl ?_
      refine RT.brN rfl (fun c5 => ?_) (fun c5 => ?_)
      · refine RT.brF rfl ?_
        refine RT.brF rfl ?_
        refine RT.brF rfl ?_
        refine RT.call0 rfl (fun _ h => place_locator.ok k a0_0 a0_1 a1 _ h) (LeL.eq rfl) (fun _ => rfl) (fun r4 => ?_)
        refine RS.go ?_
        exact RT.done rfl rfl (Le.tup (LeL.cons (Le.refl _) (LeL.cons (Le.refl _) (LeL.nil)))) trivial rfl (dom0 rfl)
      · refine RT.brT rfl ?_
        refine RT.brT rfl ?_
        refine RT.brN rfl (fun c3 => ?_) (fun c3 => ?_)
        · refine RT.call0 rfl (fun _ h => place_locator.ok k a0_0 a0_1 a1 _ h) (LeL.eq rfl) (fun _ => rfl) (fun r2 => ?_)
          refine RS.go ?_
          exact RT.done rfl rfl (Le.tup (LeL.cons (Le.refl _) (LeL.cons (Le.refl _) (LeL.nil)))) trivial rfl (dom0 rfl)
        · exact RT.done rfl rfl (Le.tup (LeL.cons (Le.refl _) (LeL.cons (Le.refl _) (LeL.nil)))) trivial rfl (dom0 rfl)
  · exact RT.done rfl rfl (Le.tup (LeL.cons (Le.refl _) (LeL.cons (Le.refl _) (LeL.nil)))) trivial rfl (dom0 rfl)
/-! ### pilelaw1_when: function 22 -/
def pilelaw1_when.f (a0 : Bool) (a1 : Int) : Option (Int) := (if a0 = true then Option.some a1 else Option.some 0)
theorem pilelaw1_when.ok (a0 : Bool) (a1 : Int) (r : Int) (h : pilelaw1_when.f a0 a1 = some r) : Ct Tryz.prog B 22 [.bool a0, .int .i64 a1] (ofL []) (.int .i64 r) (ofL []) := by
  refine Ct.of (Y := (fam Tryz.f22 [] [] [] (fun r : Int => .int .i64 r) (fun r => []))) Tryz.func22 rfl Tryz.call22 rfl rfl ?_ r h
  unfold pilelaw1_when.f
  refine RS.go ?_
  refine RT.brB rfl (fun c1 => ?_) (fun c1 => ?_)
  · exact RT.done rfl rfl (Le.refl _) trivial rfl (dom0 rfl)
  · exact RT.done rfl rfl (Le.refl _) trivial rfl (dom0 rfl)
/-! ### cmp_Or_api_Errno: function 21 -/
def cmp_Or_api_Errno.l0 : Nat → List Int → Int → Option (Int)
  | 0, _, _ => Option.none
  | k + 1, l0, x8 => (if x8 < (l0.length : Int) then (if 0 ≤ x8 then (if x8 < (l0.length : Int) then (if (rd l0 x8) = 0 then cmp_Or_api_Errno.l0 k l0 (wrap64 (x8 + 1)) else Option.some (rd l0 x8)) else Option.none) else Option.none) else Option.some 0)
def cmp_Or_api_Errno.f (k : Nat) (l0 : List Int) : Option (Int) := cmp_Or_api_Errno.l0 k l0 0
theorem cmp_Or_api_Errno.loops : ∀ k, (∀ (l0 : List Int) (x8 : Int), RS (fam Tryz.f21 [] [] [] (fun r : Int => .int .i64 r) (fun r => [])) (Func.head Tryz.f21 0) ⟨ofT [(3, .int .i64 0), (6, sq eI l0), (7, .int .i64 (l0.length : Int)), (8, .int .i64 x8)], ofL []⟩ (cmp_Or_api_Errno.l0 k l0 x8))
  | 0 => by intro _ _; simp only [cmp_Or_api_Errno.l0]; exact RS.none
  | k + 1 => by
    have ih := cmp_Or_api_Errno.loops k
    · intro l0 x8
      simp only [cmp_Or_api_Errno.l0]
      refine RS.go ?_
      refine RT.br rfl (fun c4 => ?_) (fun c4 => ?_)
      · refine RT.br rfl (fun c1 => ?_) (fun c1 => RT.none)
        refine RT.br rfl (fun c2 => ?_) (fun c2 => RT.none)
        refine RT.brN rfl (fun c3 => ?_) (fun c3 => ?_)
        · refine RT.goto rfl ?_
          refine RS.weak [(3, .int .i64 0), (6, sq eI l0), (7, .int .i64 (l0.length : Int)), (8, .int .i64 (wrap64 (x8 + 1)))] [] ⟨Le.eq (by first | rfl | simp), Le.eq (by first | rfl | simp), Le.eq (by first | rfl | simp), Le.eq (by first | rfl | simp), trivial⟩ trivial rfl (dom0 rfl) ?_
          exact ih l0 (wrap64 (x8 + 1)) 
        · exact RT.done rfl rfl (Le.refl _) trivial rfl (dom0 rfl)
      · exact RT.done rfl rfl (Le.refl _) trivial rfl (dom0 rfl)
theorem cmp_Or_api_Errno.ok (k : Nat) (l0 : List Int) (r : Int) (h : cmp_Or_api_Errno.f k l0 = some r) : Ct Tryz.prog B 21 [sq eI l0] (ofL []) (.int .i64 r) (ofL []) := by
  refine Ct.of (Y := (fam Tryz.f21 [] [] [] (fun r : Int => .int .i64 r) (fun r => []))) Tryz.func21 rfl Tryz.call21 rfl rfl ?_ r h
  unfold cmp_Or_api_Errno.f
  refine RS.go ?_
  refine RT.goto rfl ?_
  refine RS.weak [(3, .int .i64 0), (6, sq eI l0), (7, .int .i64 (l0.length : Int)), (8, .int .i64 0)] [] ⟨Le.eq (by first | rfl | simp), Le.eq (by first | rfl | simp), Le.eq (by first | rfl | simp), Le.eq (by first | rfl | simp), trivial⟩ trivial rfl (dom0 rfl) ?_
  exact cmp_Or_api_Errno.loops k l0 0 
/-! ### place_Within: function 24 -/
def place_Within.f (k : Nat) (a0 : ByteArray) (a1 : ByteArray) : Option (Bool × Int) := ((place_IsLocator.f k a0).bind fun r1 => (if r1 = true then ((place_IsLocator.f k a1).bind fun r2 => (if r2 = true then (if (a0.size : Int) ≥ (a1.size : Int) then (if 0 ≤ (a1.size : Int) then (if (a1.size : Int) ≤ (a0.size : Int) then Option.some ((decide (a0.extract 0 ((a1.size : Int)).toNat = a1)), 0) else Option.none) else Option.none) else Option.some (false, 0)) else Option.some (false, 3))) else Option.some (false, 3)))
theorem place_Within.ok (k : Nat) (a0 : ByteArray) (a1 : ByteArray) (r : Bool × Int) (h : place_Within.f k a0 a1 = some r) : Ct Tryz.prog B 24 [.str a0, .str a1] (ofL []) (.tup [.bool r.1, .int .i64 r.2]) (ofL []) := by
  refine Ct.of (Y := (fam Tryz.f24 [] [] [] (fun r : Bool × Int => .tup [.bool r.1, .int .i64 r.2]) (fun r => []))) Tryz.func24 rfl Tryz.call24 rfl rfl ?_ r h
  unfold place_Within.f
  refine RS.go ?_
  refine RT.call0 rfl (fun _ h => place_IsLocator.ok k a0 _ h) (LeL.eq rfl) (fun _ => rfl) (fun r1 => ?_)
  refine RS.go ?_
  refine RT.brBN rfl (fun c7 => ?_) (fun c7 => ?_)
  · refine RT.brF rfl ?_
    refine RT.call0 rfl (fun _ h => place_IsLocator.ok k a1 _ h) (LeL.eq rfl) (fun _ => rfl) (fun r2 => ?_)
    refine RS.go ?_
    refine RT.brF rfl ?_
    refine RT.brF rfl ?_
    refine RT.brBN rfl (fun c6 => ?_) (fun c6 => ?_)
    · refine RT.br rfl (fun c5 => ?_) (fun c5 => ?_)
      · refine RT.brT rfl ?_
        refine RT.brT rfl ?_
        refine RT.brT rfl ?_
        refine RT.br rfl (fun c3 => ?_) (fun c3 => RT.none)
        refine RT.br rfl (fun c4 => ?_) (fun c4 => RT.none)
        refine RT.brT rfl ?_
        refine RT.brT rfl ?_
        refine RT.brT rfl ?_
        exact RT.done rfl rfl (Le.tup (LeL.cons (Le.refl _) (LeL.cons (Le.refl _) (LeL.nil)))) trivial rfl (dom0 rfl)
      · refine RT.brF rfl ?_
        refine RT.brF rfl ?_
        refine RT.brF rfl ?_
        refine RT.brF rfl ?_
        refine RT.brF rfl ?_
        refine RT.brF rfl ?_
        exact RT.done rfl rfl (Le.tup (LeL.cons (Le.refl _) (LeL.cons (Le.refl _) (LeL.nil)))) trivial rfl (dom0 rfl)
    · exact RT.done rfl rfl (Le.tup (LeL.cons (Le.refl _) (LeL.cons (Le.refl _) (LeL.nil)))) trivial rfl (dom0 rfl)
  · refine RT.brT rfl ?_
    refine RT.brT rfl ?_
    refine RT.brT rfl ?_
    refine RT.brT rfl ?_
    exact RT.done rfl rfl (Le.tup (LeL.cons (Le.refl _) (LeL.cons (Le.refl _) (LeL.nil)))) trivial rfl (dom0 rfl)
/-! ### internal_stringslite_HasPrefix: function 64 -/
def internal_stringslite_HasPrefix.f (a0 : ByteArray) (a1 : ByteArray) : Option (Bool) := (if (a0.size : Int) ≥ (a1.size : Int) then (if 0 ≤ (a1.size : Int) then (if (a1.size : Int) ≤ (a0.size : Int) then Option.some (decide (a0.extract 0 ((a1.size : Int)).toNat = a1)) else Option.none) else Option.none) else Option.some false)
theorem internal_stringslite_HasPrefix.ok (a0 : ByteArray) (a1 : ByteArray) (r : Bool) (h : internal_stringslite_HasPrefix.f a0 a1 = some r) : Ct Tryz.prog B 64 [.str a0, .str a1] (ofL []) (.bool r) (ofL []) := by
  refine Ct.of (Y := (fam Tryz.f64 [] [] [] (fun r : Bool => .bool r) (fun r => []))) Tryz.func64 rfl Tryz.call64 rfl rfl ?_ r h
  unfold internal_stringslite_HasPrefix.f
  refine RS.go ?_
  refine RT.br rfl (fun c3 => ?_) (fun c3 => ?_)
  · refine RT.brT rfl ?_
    refine RT.brT rfl ?_
    refine RT.brT rfl ?_
    refine RT.br rfl (fun c1 => ?_) (fun c1 => RT.none)
    refine RT.br rfl (fun c2 => ?_) (fun c2 => RT.none)
    refine RT.brT rfl ?_
    refine RT.brT rfl ?_
    refine RT.brT rfl ?_
    exact RT.done rfl rfl (Le.refl _) trivial rfl (dom0 rfl)
  · refine RT.brF rfl ?_
    refine RT.brF rfl ?_
    refine RT.brF rfl ?_
    refine RT.brF rfl ?_
    refine RT.brF rfl ?_
    refine RT.brF rfl ?_
    exact RT.done rfl rfl (Le.refl _) trivial rfl (dom0 rfl)
/-! ### strings_HasPrefix: function 52 -/
def strings_HasPrefix.f (a0 : ByteArray) (a1 : ByteArray) : Option (Bool) := ((internal_stringslite_HasPrefix.f a0 a1).bind fun r1 => Option.some r1)
theorem strings_HasPrefix.ok (a0 : ByteArray) (a1 : ByteArray) (r : Bool) (h : strings_HasPrefix.f a0 a1 = some r) : Ct Tryz.prog B 52 [.str a0, .str a1] (ofL []) (.bool r) (ofL []) := by
  refine Ct.of (Y := (fam Tryz.f52 [] [] [] (fun r : Bool => .bool r) (fun r => []))) Tryz.func52 rfl Tryz.call52 rfl rfl ?_ r h
  unfold strings_HasPrefix.f
  refine RS.go ?_
  refine RT.call0 rfl (fun _ h => internal_stringslite_HasPrefix.ok a0 a1 _ h) (LeL.eq rfl) (fun _ => rfl) (fun r1 => ?_)
  refine RS.go ?_
  exact RT.done rfl rfl (Le.refl _) trivial rfl (dom0 rfl)
/-! ### pileref1_WithinOf: function 25 -/
def pileref1_WithinOf.f (a0 : ByteArray) (a1 : ByteArray) : Option (Bool) := ((strings_HasPrefix.f a0 a1).bind fun r1 => Option.some r1)
theorem pileref1_WithinOf.ok (a0 : ByteArray) (a1 : ByteArray) (r : Bool) (h : pileref1_WithinOf.f a0 a1 = some r) : Ct Tryz.prog B 25 [.str a0, .str a1] (ofL []) (.bool r) (ofL []) := by
  refine Ct.of (Y := (fam Tryz.f25 [] [] [] (fun r : Bool => .bool r) (fun r => []))) Tryz.func25 rfl Tryz.call25 rfl rfl ?_ r h
  unfold pileref1_WithinOf.f
  refine RS.go ?_
  refine RT.call0 rfl (fun _ h => strings_HasPrefix.ok a0 a1 _ h) (LeL.eq rfl) (fun _ => rfl) (fun r1 => ?_)
  refine RS.go ?_
  exact RT.done rfl rfl (Le.refl _) trivial rfl (dom0 rfl)
def maps_Keys_map_string_bool_string_bool.f (l0 : List (ByteArray × Bool)) : Option Unit := some ()
theorem maps_Keys_map_string_bool_string_bool.ok (l0 : List (ByteArray × Bool)) (r : Unit) (h : maps_Keys_map_string_bool_string_bool.f l0 = some r) : Ct Tryz.prog B 54 [.omap 100000] (ofL [(100000, mapE KL.strs (false : Bool) AV.bool l0)]) (.fn 67 [.ref 500000 1 0 0 1]) (ofL [(100000, mapE KL.strs (false : Bool) AV.bool l0), (500000, .box [.omap 100000])]) :=
  Ct.mapsKeys Tryz.call54 Tryz.maps_Keys_54

def slices_Sort_string_string.f (l0 : List ByteArray) : Option (List ByteArray) := if l0.length < 4611686018427387904 then some (sortB l0) else none
theorem slices_Sort_string_string.ok (l0 r : List ByteArray) (h : slices_Sort_string_string.f l0 = some r) : Ct Tryz.prog B 66 [.osl 100000 1 0 l0.length l0.length] (ofL [(100000, bufE eS l0)]) (.tup []) (ofL [(100000, bufE eS r)]) := by
  unfold slices_Sort_string_string.f at h
  split at h
  case isFalse => cases h
  case isTrue c =>
  cases h
  refine Ct.row (E := eS) (enc := Value.string) rfl (fun _ => rfl) (sortB_len l0) Tryz.call66 (fun b cap w hH hb _ => ?_) (fun hl p w => by subst hl; exact Tryz.slices_Sort_string_none p 0 w)
  have h1 := Tryz.slices_Sort_string b 0 cap (l0.map fun s => s.data.toList) w (strRow_holds hH) hb (by rw [List.length_map]; exact c)
  rw [List.length_map] at h1
  refine h1.mono fun e w' ⟨he, n, os, hw⟩ => ⟨he, n, os, ?_⟩
  rw [hw, ← sortB_map, strRow_put]

def slices_Sorted_string_of_maps_Keys_map_string_bool_string_bool_1.f (l0 : List (ByteArray × Bool)) : Option (List ByteArray) := if (l0.map Prod.fst).Nodup ∧ (∀ s ∈ l0.map Prod.fst, s.size ≤ Go.maxLen) ∧ l0.length ≤ 1000000000000 then some (sortB (l0.map Prod.fst)) else none
theorem slices_Sorted_string_of_maps_Keys_map_string_bool_string_bool_1.ok (l0 : List (ByteArray × Bool)) (r : List ByteArray) (h : slices_Sorted_string_of_maps_Keys_map_string_bool_string_bool_1.f l0 = some r) : Ct Tryz.prog B 53 [.fn 67 [.ref 200000 1 0 0 1]] (ofL [(200000, .box [.omap 600000]), (600000, mapE KL.strs (false : Bool) AV.bool l0)]) (sq eS r) (ofL [(200000, .box [.omap 600000]), (600000, mapE KL.strs (false : Bool) AV.bool l0)]) := by
  unfold slices_Sorted_string_of_maps_Keys_map_string_bool_string_bool_1.f at h
  split at h
  case isFalse => cases h
  case isTrue c =>
  cases h
  exact Ct.sortedKeys Tryz.call53 Tryz.underlying9 (fun Bm b nn D0 w h1 h2 h3 h4 h5 => Tryz.sorts_keys_53_54 Bm b nn D0 _ w h1 h2 h3 h4 h5) c.1 c.2.1 (by simpa using c.2.2)

/-! ### place_Squares: function 26 -/
def place_Squares.l0 : Nat → List ByteArray → Int → List (ByteArray × Bool) → Option ((List ByteArray) × Int)
  | 0, _, _, _ => Option.none
  | k + 1, l0, x13, o10 => (if x13 < (l0.length : Int) then (if 0 ≤ x13 then (if x13 < (l0.length : Int) then ((place_IsLocator.f k (rdE eS l0 x13)).bind fun r3 => (if r3 = true then (if ((rdE eS l0 x13).size : Int) < 4 then Option.some ([], 3) else (if 4 ≤ ((rdE eS l0 x13).size : Int) then place_Squares.l0 k l0 (wrap64 (x13 + 1)) (mput o10 ((rdE eS l0 x13).extract 0 4) true) else Option.none)) else Option.some ([], 3))) else Option.none) else Option.none) else ((maps_Keys_map_string_bool_string_bool.f o10).bind fun r7 => ((slices_Sorted_string_of_maps_Keys_map_string_bool_string_bool_1.f o10).bind fun r8 => Option.some (r8, 0))))
def place_Squares.f (k : Nat) (l0 : List ByteArray) : Option ((List ByteArray) × Int) := (if (l0.length : Int) > 2000 then Option.some ([], 2) else place_Squares.l0 k l0 0 ([] : List (ByteArray × Bool)))
theorem place_Squares.loops : ∀ k, (∀ (l0 : List ByteArray) (x13 : Int) (o10 : List (ByteArray × Bool)), RS (fam Tryz.f26 [] [] [] (fun r : (List ByteArray) × Int => .tup [sq eS r.1, .int .i64 r.2]) (fun r => [])) (Func.head Tryz.f26 0) ⟨ofT [(4, .omap 10), (11, sq eS l0), (12, .int .i64 (l0.length : Int)), (13, .int .i64 x13)], ofL [(10, mapE KL.strs (false : Bool) AV.bool o10)]⟩ (place_Squares.l0 k l0 x13 o10))
  | 0 => by intro _ _ _; simp only [place_Squares.l0]; exact RS.none
  | k + 1 => by
    have ih := place_Squares.loops k
    · intro l0 x13 o10
      simp only [place_Squares.l0]
      refine RS.go ?_
      refine RT.br rfl (fun c9 => ?_) (fun c9 => ?_)
      · refine RT.br rfl (fun c1 => ?_) (fun c1 => RT.none)
        refine RT.br rfl (fun c2 => ?_) (fun c2 => RT.none)
        refine RT.call0 rfl (fun _ h => place_IsLocator.ok k (rdE eS l0 x13) _ h) (LeL.eq rfl) (fun _ => rfl) (fun r3 => ?_)
        refine RS.go ?_
        refine RT.brBN rfl (fun c6 => ?_) (fun c6 => ?_)
        · refine RT.brF rfl ?_
          refine RT.brF rfl ?_
          refine RT.brF rfl ?_
          refine RT.br rfl (fun c5 => ?_) (fun c5 => ?_)
          · exact RT.done rfl rfl (Le.tup (LeL.cons (Le.nil _ _) (LeL.cons (Le.refl _) (LeL.nil)))) trivial rfl (dom0 rfl)
          · refine RT.brT rfl ?_
            refine RT.br rfl (fun c4 => ?_) (fun c4 => RT.none)
            refine RT.goto rfl ?_
            refine RS.obj 10 (mapE KL.strs (false : Bool) AV.bool (mput o10 ((rdE eS l0 x13).extract 0 4) true)) ⟨_, rfl, LeO.putS⟩ ?_
            refine RS.go ?_
            refine RT.goto rfl ?_
            refine RS.weak [(4, .omap 10), (11, sq eS l0), (12, .int .i64 (l0.length : Int)), (13, .int .i64 (wrap64 (x13 + 1)))] [(10, mapE KL.strs (false : Bool) AV.bool (mput o10 ((rdE eS l0 x13).extract 0 4) true))] ⟨Le.eq (by first | rfl | simp), Le.eq (by first | rfl | simp), Le.eq (by first | rfl | simp), Le.eq (by first | rfl | simp), trivial⟩ ⟨⟨_, rfl, LeO.refl _⟩, trivial⟩ rfl (dom0 rfl) ?_
            exact ih l0 (wrap64 (x13 + 1)) (mput o10 ((rdE eS l0 x13).extract 0 4) true) 
        · refine RT.brT rfl ?_
          refine RT.brT rfl ?_
          refine RT.brT rfl ?_
          refine RT.brT rfl ?_
          exact RT.done rfl rfl (Le.tup (LeL.cons (Le.nil _ _) (LeL.cons (Le.refl _) (LeL.nil)))) trivial rfl (dom0 rfl)
      · refine RT.call rfl (fun _ h => maps_Keys_map_string_bool_string_bool.ok o10 _ h) (fun i => bif Nat.beq i 500000 then 30 else bif Nat.beq i 100000 then 10 else i) (LeL.eq rfl) ⟨⟨_, rfl, LeO.refl _⟩, trivial⟩ (fun _ => rfl) (fun r7 => ?_)
        refine RS.go ?_
        refine RT.call rfl (fun _ h => slices_Sorted_string_of_maps_Keys_map_string_bool_string_bool_1.ok o10 _ h) (fun i => bif Nat.beq i 600000 then 10 else bif Nat.beq i 200000 then 30 else i) (LeL.eq rfl) ⟨⟨_, rfl, LeO.refl _⟩, ⟨⟨_, rfl, LeO.refl _⟩, trivial⟩⟩ (fun _ => rfl) (fun r8 => ?_)
        refine RS.go ?_
        exact RT.done rfl rfl (Le.tup (LeL.cons (Le.refl _) (LeL.cons (Le.refl _) (LeL.nil)))) trivial rfl (dom0 rfl)
theorem place_Squares.ok (k : Nat) (l0 : List ByteArray) (r : (List ByteArray) × Int) (h : place_Squares.f k l0 = some r) : Ct Tryz.prog B 26 [sq eS l0] (ofL []) (.tup [sq eS r.1, .int .i64 r.2]) (ofL []) := by
  refine Ct.of (Y := (fam Tryz.f26 [] [] [] (fun r : (List ByteArray) × Int => .tup [sq eS r.1, .int .i64 r.2]) (fun r => []))) Tryz.func26 rfl Tryz.call26 rfl rfl ?_ r h
  unfold place_Squares.f
  refine RS.go ?_
  refine RT.br rfl (fun c10 => ?_) (fun c10 => ?_)
  · exact RT.done rfl rfl (Le.tup (LeL.cons (Le.nil _ _) (LeL.cons (Le.refl _) (LeL.nil)))) trivial rfl (dom0 rfl)
  · refine RT.goto rfl ?_
    refine RS.weak [(4, .omap 10), (11, sq eS l0), (12, .int .i64 (l0.length : Int)), (13, .int .i64 0)] [(10, mapE KL.strs (false : Bool) AV.bool ([] : List (ByteArray × Bool)))] ⟨Le.eq (by first | rfl | simp), Le.eq (by first | rfl | simp), Le.eq (by first | rfl | simp), Le.eq (by first | rfl | simp), trivial⟩ ⟨⟨_, rfl, LeO.refl _⟩, trivial⟩ rfl (dom0 rfl) ?_
    exact place_Squares.loops k l0 0 ([] : List (ByteArray × Bool)) 
/-! ### pileref1_SquaresFault_1: function 56 -/
def pileref1_SquaresFault_1.f (k : Nat) (a0 : ByteArray) : Option (Bool) := ((pileref1_LocatorRight.f k a0).bind fun r1 => (if r1 = true then Option.some (decide ((a0.size : Int) = 2)) else Option.some true))
theorem pileref1_SquaresFault_1.ok (k : Nat) (a0 : ByteArray) (r : Bool) (h : pileref1_SquaresFault_1.f k a0 = some r) : Ct Tryz.prog B 56 [.str a0] (ofL []) (.bool r) (ofL []) := by
  refine Ct.of (Y := (fam Tryz.f56 [] [] [] (fun r : Bool => .bool r) (fun r => []))) Tryz.func56 rfl Tryz.call56 rfl rfl ?_ r h
  unfold pileref1_SquaresFault_1.f
  refine RS.go ?_
  refine RT.call0 rfl (fun _ h => pileref1_LocatorRight.ok k a0 _ h) (LeL.eq rfl) (fun _ => rfl) (fun r1 => ?_)
  refine RS.go ?_
  refine RT.brBN rfl (fun c2 => ?_) (fun c2 => ?_)
  · refine RT.brF rfl ?_
    refine RT.brF rfl ?_
    refine RT.brF rfl ?_
    exact RT.done rfl rfl (Le.refl _) trivial rfl (dom0 rfl)
  · refine RT.brT rfl ?_
    refine RT.brT rfl ?_
    refine RT.brT rfl ?_
    exact RT.done rfl rfl (Le.refl _) trivial rfl (dom0 rfl)
/-! ### slices_IndexFunc_string_string_of_pileref1_SquaresFault_1: function 68 -/
def slices_IndexFunc_string_string_of_pileref1_SquaresFault_1.l0 : Nat → List ByteArray → Int → Option (Int)
  | 0, _, _ => Option.none
  | k + 1, l0, x8 => (if x8 < (l0.length : Int) then (if 0 ≤ x8 then (if x8 < (l0.length : Int) then ((pileref1_SquaresFault_1.f k (rdE eS l0 x8)).bind fun r3 => (if r3 = true then Option.some x8 else slices_IndexFunc_string_string_of_pileref1_SquaresFault_1.l0 k l0 (wrap64 (x8 + 1)))) else Option.none) else Option.none) else Option.some (-1))
def slices_IndexFunc_string_string_of_pileref1_SquaresFault_1.f (k : Nat) (l0 : List ByteArray) : Option (Int) := slices_IndexFunc_string_string_of_pileref1_SquaresFault_1.l0 k l0 0
theorem slices_IndexFunc_string_string_of_pileref1_SquaresFault_1.loops : ∀ k, (∀ (l0 : List ByteArray) (x8 : Int), RS (fam Tryz.f68 [] [] [] (fun r : Int => .int .i64 r) (fun r => [])) (Func.head Tryz.f68 0) ⟨ofT [(0, sq eS l0), (1, .fn 56 []), (7, .int .i64 (l0.length : Int)), (8, .int .i64 x8)], ofL []⟩ (slices_IndexFunc_string_string_of_pileref1_SquaresFault_1.l0 k l0 x8))
  | 0 => by intro _ _; simp only [slices_IndexFunc_string_string_of_pileref1_SquaresFault_1.l0]; exact RS.none
  | k + 1 => by
    have ih := slices_IndexFunc_string_string_of_pileref1_SquaresFault_1.loops k
    · intro l0 x8
      simp only [slices_IndexFunc_string_string_of_pileref1_SquaresFault_1.l0]
      refine RS.go ?_
      refine RT.br rfl (fun c5 => ?_) (fun c5 => ?_)
      · refine RT.br rfl (fun c1 => ?_) (fun c1 => RT.none)
        refine RT.br rfl (fun c2 => ?_) (fun c2 => RT.none)
        refine RT.call0 rfl (fun _ h => pileref1_SquaresFault_1.ok k (rdE eS l0 x8) _ h) (LeL.eq rfl) (fun _ => rfl) (fun r3 => ?_)
        refine RS.go ?_
        refine RT.brB rfl (fun c4 => ?_) (fun c4 => ?_)
        · exact RT.done rfl rfl (Le.refl _) trivial rfl (dom0 rfl)
        · refine RT.goto rfl ?_
          refine RS.weak [(0, sq eS l0), (1, .fn 56 []), (7, .int .i64 (l0.length : Int)), (8, .int .i64 (wrap64 (x8 + 1)))] [] ⟨Le.eq (by first | rfl | simp), Le.eq (by first | rfl | simp), Le.eq (by first | rfl | simp), Le.eq (by first | rfl | simp), trivial⟩ trivial rfl (dom0 rfl) ?_
          exact ih l0 (wrap64 (x8 + 1)) 
      · exact RT.done rfl rfl (Le.refl _) trivial rfl (dom0 rfl)
theorem slices_IndexFunc_string_string_of_pileref1_SquaresFault_1.ok (k : Nat) (l0 : List ByteArray) (r : Int) (h : slices_IndexFunc_string_string_of_pileref1_SquaresFault_1.f k l0 = some r) : Ct Tryz.prog B 68 [sq eS l0, .fn 56 []] (ofL []) (.int .i64 r) (ofL []) := by
  refine Ct.of (Y := (fam Tryz.f68 [] [] [] (fun r : Int => .int .i64 r) (fun r => []))) Tryz.func68 rfl Tryz.call68 rfl rfl ?_ r h
  unfold slices_IndexFunc_string_string_of_pileref1_SquaresFault_1.f
  refine RS.go ?_
  refine RT.goto rfl ?_
  refine RS.weak [(0, sq eS l0), (1, .fn 56 []), (7, .int .i64 (l0.length : Int)), (8, .int .i64 0)] [] ⟨Le.eq (by first | rfl | simp), Le.eq (by first | rfl | simp), Le.eq (by first | rfl | simp), Le.eq (by first | rfl | simp), trivial⟩ trivial rfl (dom0 rfl) ?_
  exact slices_IndexFunc_string_string_of_pileref1_SquaresFault_1.loops k l0 0 
/-! ### slices_ContainsFunc_string_string_of_pileref1_SquaresFault_1: function 55 -/
def slices_ContainsFunc_string_string_of_pileref1_SquaresFault_1.f (k : Nat) (l0 : List ByteArray) : Option (Bool) := ((slices_IndexFunc_string_string_of_pileref1_SquaresFault_1.f k l0).bind fun r1 => Option.some (decide (r1 ≥ 0)))
theorem slices_ContainsFunc_string_string_of_pileref1_SquaresFault_1.ok (k : Nat) (l0 : List ByteArray) (r : Bool) (h : slices_ContainsFunc_string_string_of_pileref1_SquaresFault_1.f k l0 = some r) : Ct Tryz.prog B 55 [sq eS l0, .fn 56 []] (ofL []) (.bool r) (ofL []) := by
  refine Ct.of (Y := (fam Tryz.f55 [] [] [] (fun r : Bool => .bool r) (fun r => []))) Tryz.func55 rfl Tryz.call55 rfl rfl ?_ r h
  unfold slices_ContainsFunc_string_string_of_pileref1_SquaresFault_1.f
  refine RS.go ?_
  refine RT.call0 rfl (fun _ h => slices_IndexFunc_string_string_of_pileref1_SquaresFault_1.ok k l0 _ h) (LeL.eq rfl) (fun _ => rfl) (fun r1 => ?_)
  refine RS.go ?_
  exact RT.done rfl rfl (Le.refl _) trivial rfl (dom0 rfl)
/-! ### pileref1_SquaresFault: function 27 -/
def pileref1_SquaresFault.f (k : Nat) (l0 : List ByteArray) : Option (Int) := (if (l0.length : Int) > 2000 then Option.some 2 else ((slices_ContainsFunc_string_string_of_pileref1_SquaresFault_1.f k l0).bind fun r1 => (if r1 = true then Option.some 3 else Option.some 0)))
theorem pileref1_SquaresFault.ok (k : Nat) (l0 : List ByteArray) (r : Int) (h : pileref1_SquaresFault.f k l0 = some r) : Ct Tryz.prog B 27 [sq eS l0] (ofL []) (.int .i64 r) (ofL []) := by
  refine Ct.of (Y := (fam Tryz.f27 [] [] [] (fun r : Int => .int .i64 r) (fun r => []))) Tryz.func27 rfl Tryz.call27 rfl rfl ?_ r h
  unfold pileref1_SquaresFault.f
  refine RS.go ?_
  refine RT.br rfl (fun c3 => ?_) (fun c3 => ?_)
  · exact RT.done rfl rfl (Le.refl _) trivial rfl (dom0 rfl)
  · refine RT.call0 rfl (fun _ h => slices_ContainsFunc_string_string_of_pileref1_SquaresFault_1.ok k l0 _ h) (LeL.eq rfl) (fun _ => rfl) (fun r1 => ?_)
    refine RS.go ?_
    refine RT.brB rfl (fun c2 => ?_) (fun c2 => ?_)
    · exact RT.done rfl rfl (Le.refl _) trivial rfl (dom0 rfl)
    · exact RT.done rfl rfl (Le.refl _) trivial rfl (dom0 rfl)
/-! ### place_cosine: function 69 -/
mutual
def place_cosine.j4 : Nat → Int → Option (Int)
  | 0, _ => Option.none
  | k + 1, x3j4 => (if x3j4 > 324000 then ((place_cosine.f k (wrap64 (648000 - x3j4))).bind fun r1 => Option.some (wrap64 (0 - r1))) else (if wrap64 (419904000000 + (wrap64 (x3j4 * x3j4))) = 0 then Option.none else Option.some (wrap64 (Int.tdiv (wrap64 ((wrap64 (419904000000 - (wrap64 ((wrap64 (4 * x3j4)) * x3j4)))) * 1000000)) (wrap64 (419904000000 + (wrap64 (x3j4 * x3j4))))))))
def place_cosine.f : Nat → Int → Option (Int)
  | 0, _ => Option.none
  | k + 1, a0 => (if Int.tmod (wrap64 ((Int.tmod a0 1296000) + 1296000)) 1296000 > 648000 then place_cosine.j4 k (wrap64 (1296000 - (Int.tmod (wrap64 ((Int.tmod a0 1296000) + 1296000)) 1296000))) else place_cosine.j4 k (Int.tmod (wrap64 ((Int.tmod a0 1296000) + 1296000)) 1296000))
end
theorem place_cosine.loops : ∀ k, (∀ (x3j4 : Int), RS (fam Tryz.f69 [4] [] [] (fun r : Int => .int .i64 r) (fun r => [])) (Func.reg Tryz.f69 4) ⟨ofT [(3, .int .i64 x3j4)], ofL []⟩ (place_cosine.j4 k x3j4)) ∧ ∀ (a0 : Int) (r : Int) (h : place_cosine.f k a0 = some r), Ct Tryz.prog B 69 [.int .i64 a0] (ofL []) (.int .i64 r) (ofL [])
  | 0 => ⟨by intro _; simp only [place_cosine.j4]; exact RS.none, by intro _ r h; simp only [place_cosine.f] at h; cases h⟩
  | k + 1 => by
    have ih := place_cosine.loops k
    refine ⟨?_, ?_⟩
    · intro x3j4
      simp only [place_cosine.j4]
      refine RS.region ?_
      refine RS.go ?_
      refine RT.br rfl (fun c3 => ?_) (fun c3 => ?_)
      · refine RT.call0 rfl (fun _ h => ih.2 (wrap64 (648000 - x3j4)) _ h) (LeL.eq rfl) (fun _ => rfl) (fun r1 => ?_)
        refine RS.go ?_
        exact RT.done rfl rfl (Le.refl _) trivial rfl (dom0 rfl)
      · refine RT.br rfl (fun _ => RT.none) (fun c2 => ?_)
        exact RT.done rfl rfl (Le.refl _) trivial rfl (dom0 rfl)
    · intro a0 r h
      refine Ct.of (Y := (fam Tryz.f69 [4] [] [] (fun r : Int => .int .i64 r) (fun r => []))) Tryz.func69 rfl Tryz.call69 rfl rfl ?_ r h
      simp only [place_cosine.f]
      refine RS.go ?_
      refine RT.brF rfl ?_
      refine RT.brF rfl ?_
      refine RT.br rfl (fun c4 => ?_) (fun c4 => ?_)
      · refine RT.goto rfl ?_
        refine RS.weak [(3, .int .i64 (wrap64 (1296000 - (Int.tmod (wrap64 ((Int.tmod a0 1296000) + 1296000)) 1296000))))] [] ⟨Le.eq (by first | rfl | simp), trivial⟩ trivial rfl (dom0 rfl) ?_
        exact ih.1 (wrap64 (1296000 - (Int.tmod (wrap64 ((Int.tmod a0 1296000) + 1296000)) 1296000))) 
      · refine RT.goto rfl ?_
        refine RS.weak [(3, .int .i64 (Int.tmod (wrap64 ((Int.tmod a0 1296000) + 1296000)) 1296000))] [] ⟨Le.eq (by first | rfl | simp), trivial⟩ trivial rfl (dom0 rfl) ?_
        exact ih.1 (Int.tmod (wrap64 ((Int.tmod a0 1296000) + 1296000)) 1296000) 
theorem place_cosine.ok (k : Nat) (a0 : Int) (r : Int) (h : place_cosine.f k a0 = some r) : Ct Tryz.prog B 69 [.int .i64 a0] (ofL []) (.int .i64 r) (ofL []) := by
  exact (place_cosine.loops k).2 a0 r h
/-! ### place_Cosine: function 57 -/
def place_Cosine.f (k : Nat) (a0 : Int) : Option (Int × Int) := ((kit_Outside.f a0 (-1296000000) 1296000000).bind fun r1 => (if r1 = true then Option.some (0, 1) else ((place_cosine.f k a0).bind fun r2 => Option.some (r2, 0))))
theorem place_Cosine.ok (k : Nat) (a0 : Int) (r : Int × Int) (h : place_Cosine.f k a0 = some r) : Ct Tryz.prog B 57 [.int .i64 a0] (ofL []) (.tup [.int .i64 r.1, .int .i64 r.2]) (ofL []) := by
  refine Ct.of (Y := (fam Tryz.f57 [] [] [] (fun r : Int × Int => .tup [.int .i64 r.1, .int .i64 r.2]) (fun r => []))) Tryz.func57 rfl Tryz.call57 rfl rfl ?_ r h
  unfold place_Cosine.f
  refine RS.go ?_
  refine RT.call0 rfl (fun _ h => kit_Outside.ok a0 (-1296000000) 1296000000 _ h) (LeL.eq rfl) (fun _ => rfl) (fun r1 => ?_)
  refine RS.go ?_
  refine RT.brB rfl (fun c3 => ?_) (fun c3 => ?_)
  · exact RT.done rfl rfl (Le.tup (LeL.cons (Le.refl _) (LeL.cons (Le.refl _) (LeL.nil)))) trivial rfl (dom0 rfl)
  · refine RT.call0 rfl (fun _ h => place_cosine.ok k a0 _ h) (LeL.eq rfl) (fun _ => rfl) (fun r2 => ?_)
    refine RS.go ?_
    exact RT.done rfl rfl (Le.tup (LeL.cons (Le.refl _) (LeL.cons (Le.refl _) (LeL.nil)))) trivial rfl (dom0 rfl)
/-! ### pilelaw1_placed: function 28 -/
def pilelaw1_placed.f (k : Nat) : Option (Bool) := ((place_Cosine.f k 216000).bind fun r1 => (if r1.2 = 0 then Option.some (decide (r1.1 = 500000)) else Option.some false))
theorem pilelaw1_placed.ok (k : Nat) (r : Bool) (h : pilelaw1_placed.f k  = some r) : Ct Tryz.prog B 28 [] (ofL []) (.bool r) (ofL []) := by
  refine Ct.of (Y := (fam Tryz.f28 [] [] [] (fun r : Bool => .bool r) (fun r => []))) Tryz.func28 rfl Tryz.call28 rfl rfl ?_ r h
  unfold pilelaw1_placed.f
  refine RS.go ?_
  refine RT.call0 rfl (fun _ h => place_Cosine.ok k 216000 _ h) (LeL.eq rfl) (fun _ => rfl) (fun r1 => ?_)
  refine RS.go ?_
  refine RT.br rfl (fun c2 => ?_) (fun c2 => ?_)
  · refine RT.brT rfl ?_
    refine RT.brT rfl ?_
    exact RT.done rfl rfl (Le.refl _) trivial rfl (dom0 rfl)
  · refine RT.brF rfl ?_
    refine RT.brF rfl ?_
    exact RT.done rfl rfl (Le.refl _) trivial rfl (dom0 rfl)
/-! ### slices_Clone_string_string: function 70 -/
def slices_Clone_string_string.f (l0 : List ByteArray) : Option ((List ByteArray)) := (if ([] : List ByteArray).length + l0.length ≤ 549755813888 then Option.some (([] : List ByteArray) ++ l0) else Option.none)
theorem slices_Clone_string_string.ok (l0 : List ByteArray) (r : (List ByteArray)) (h : slices_Clone_string_string.f l0 = some r) : Ct Tryz.prog B 70 [sq eS l0] (ofL []) (.osl 5 eS.w 0 r.length r.length) (ofL [(5, bufE eS r)]) := by
  refine Ct.of (Y := (fam Tryz.f70 [] [5] [] (fun r : (List ByteArray) => .osl 5 eS.w 0 r.length r.length) (fun r => [(5, bufE eS r)]))) Tryz.func70 rfl Tryz.call70 rfl rfl ?_ r h
  unfold slices_Clone_string_string.f
  refine RS.go ?_
  refine RT.nilq rfl (fun h1 => ?_) ?_
  · have h1 := List.eq_nil_of_length_eq_zero h1
    subst h1
    refine RT.conv (Option.some []) (by first | rfl | simp) ?_
    refine RT.brT rfl ?_
    refine RT.ghost 2 5 eS.w (rep eS []) rfl rfl rfl ?_
    exact RT.done rfl rfl (Le.refl _) ⟨⟨_, rfl, LeO.refl _⟩, trivial⟩ rfl (dom0 rfl)
  · refine RT.brF rfl ?_
    refine RT.goto rfl ?_
    refine RS.obj 5 (bufE eS ([] : List ByteArray)) ⟨_, rfl, LeO.lit (l := ([] : List ByteArray)) (cells_of rfl)⟩ ?_
    refine RS.slot 5 (.osl 5 eS.w 0 ([] : List ByteArray).length ([] : List ByteArray).length) (Le.oslN rfl (by simp)) ?_
    refine RS.go ?_
    refine RT.req rfl ⟨by first | rfl | simp, by first | exact Nat.le_refl _ | simp⟩ ?_
    refine RT.appL (E := eS) (l := ([] : List ByteArray)) (m := l0) rfl (fun _ _ _ _ => rfl) ?_
    refine RS.go ?_
    exact RT.done rfl rfl (Le.refl _) ⟨⟨_, rfl, LeO.refl _⟩, trivial⟩ rfl (dom0 rfl)
def slices_Compact_string_string.f (l0 : List ByteArray) : Option ((List ByteArray) × (List ByteArray)) := if l0.length ≤ 9223372036854775807 then some (compS l0, List.replicate (l0.length - (compS l0).length) ByteArray.empty) else none
theorem slices_Compact_string_string.ok (l0 : List ByteArray) (r : (List ByteArray) × (List ByteArray)) (h : slices_Compact_string_string.f l0 = some r) : Ct Tryz.prog B 71 [.osl 100000 1 0 l0.length l0.length] (ofL [(100000, bufE eS l0)]) (.osl 100000 1 0 r.1.length (r.1 ++ r.2).length) (ofL [(100000, bufE eS (r.1 ++ r.2))]) := by
  unfold slices_Compact_string_string.f at h
  split at h
  case isFalse => cases h
  case isTrue c =>
  cases h
  have hle := compS_len l0
  have hlc : (Lib.compact (l0.map fun s => s.data.toList)).length = (compS l0).length := by rw [← compS_map, List.length_map]
  refine Ct.rowCut (E := eS) (enc := Value.string) (l := l0) (a := compS l0) (t := List.replicate (l0.length - (compS l0).length) ByteArray.empty) rfl (fun _ => rfl) (by simp; omega) Tryz.call71 (fun b cap w hH hb hcap => ?_) (fun hl p w => by subst hl; exact Tryz.slices_Compact_string_empty p 0 w)
  have h1 := Tryz.slices_Compact_string b 0 cap (l0.map fun s => s.data.toList) w (strRow_holds hH) (by rw [List.length_map]; exact c) (by rw [List.length_map]; exact hcap)
  rw [List.length_map, hlc] at h1
  refine h1.mono fun e w' ⟨he, n, hw⟩ => ⟨he, n, #[], ?_⟩
  rw [Go.Sort.grow_empty, hw, ← strRow_put, List.map_append, compS_map, empty_map]

/-! ### pileref1_once: function 58 -/
def pileref1_once.f (l0 : List ByteArray) : Option ((List ByteArray)) := ((slices_Clone_string_string.f l0).bind fun r1 => ((slices_Sort_string_string.f r1).bind fun r2 => (if r1.length = r2.length then ((slices_Compact_string_string.f r2).bind fun r4 => Option.some r4.1) else Option.none)))
theorem pileref1_once.ok (l0 : List ByteArray) (r : (List ByteArray)) (h : pileref1_once.f l0 = some r) : Ct Tryz.prog B 58 [sq eS l0] (ofL []) (sq eS r) (ofL []) := by
  refine Ct.of (Y := (fam Tryz.f58 [] [] [] (fun r : (List ByteArray) => sq eS r) (fun r => []))) Tryz.func58 rfl Tryz.call58 rfl rfl ?_ r h
  unfold pileref1_once.f
  refine RS.go ?_
  refine RT.call rfl (fun _ h => slices_Clone_string_string.ok l0 _ h) (fun i => bif Nat.beq i 5 then 4 else i) (LeL.eq rfl) trivial (fun _ => rfl) (fun r1 => ?_)
  refine RS.go ?_
  refine RT.call rfl (fun _ h => slices_Sort_string_string.ok r1 _ h) (fun i => bif Nat.beq i 100000 then 4 else i) (LeL.eq rfl) ⟨⟨_, rfl, LeO.refl _⟩, trivial⟩ (fun _ => rfl) (fun r2 => ?_)
  refine RS.asm (fun c3 => ?_)
  refine RS.slot 0 (.osl 4 eS.w 0 r2.length r2.length) (Le.oslN rfl c3) ?_
  refine RS.slot 4 (.osl 4 eS.w 0 r2.length r2.length) (Le.oslN rfl c3) ?_
  refine RS.slot 5 (.osl 4 eS.w 0 r2.length r2.length) (Le.oslN rfl c3) ?_
  refine RS.go ?_
  refine RT.call rfl (fun _ h => slices_Compact_string_string.ok r2 _ h) (fun i => bif Nat.beq i 100000 then 4 else i) (LeL.eq rfl) ⟨⟨_, rfl, LeO.refl _⟩, trivial⟩ (fun _ => rfl) (fun r4 => ?_)
  refine RS.go ?_
  refine RT.freeze 4 _ _ _ [(2, .sl r4.1.length eS.w (rep eS (r4.1 ++ r4.2)))] [] rfl rfl ⟨.inr ⟨_, rfl, by first | exact Nat.le_refl _ | simp, rfl⟩, trivial⟩ trivial rfl (dom0 rfl) ?_
  exact RT.done rfl rfl Le.pre trivial rfl (dom0 rfl)
/-! ### pileref1_SquaresOf: function 29 -/
def pileref1_SquaresOf.l0 : Nat → List ByteArray → Int → List ByteArray → Option ((List ByteArray))
  | 0, _, _, _ => Option.none
  | k + 1, l0, x8, o3 => (if x8 < (l0.length : Int) then (if 0 ≤ x8 then (if x8 < (l0.length : Int) then (if 4 ≤ ((rdE eS l0 x8).size : Int) then (if o3.length + 1 ≤ 549755813888 then pileref1_SquaresOf.l0 k l0 (wrap64 (x8 + 1)) (o3 ++ [(rdE eS l0 x8).extract 0 4]) else Option.none) else Option.none) else Option.none) else Option.none) else ((pileref1_once.f o3).bind fun r5 => Option.some r5))
def pileref1_SquaresOf.f (k : Nat) (l0 : List ByteArray) : Option ((List ByteArray)) := pileref1_SquaresOf.l0 k l0 0 []
theorem pileref1_SquaresOf.loops : ∀ k, (∀ (l0 : List ByteArray) (x8 : Int) (o3 : List ByteArray), RS (fam Tryz.f29 [7] [] [] (fun r : (List ByteArray) => sq eS r) (fun r => [])) (Func.head Tryz.f29 0) ⟨ofT [(3, .osl 3 eS.w 0 o3.length o3.length), (6, sq eS l0), (7, .int .i64 (l0.length : Int)), (8, .int .i64 x8)], ofL [(3, bufE eS o3)]⟩ (pileref1_SquaresOf.l0 k l0 x8 o3))
  | 0 => by intro _ _ _; simp only [pileref1_SquaresOf.l0]; exact RS.none
  | k + 1 => by
    have ih := pileref1_SquaresOf.loops k
    · intro l0 x8 o3
      simp only [pileref1_SquaresOf.l0]
      refine RS.go ?_
      refine RT.br rfl (fun c6 => ?_) (fun c6 => ?_)
      · refine RT.br rfl (fun c1 => ?_) (fun c1 => RT.none)
        refine RT.br rfl (fun c2 => ?_) (fun c2 => RT.none)
        refine RT.brT rfl ?_
        refine RT.br rfl (fun c3 => ?_) (fun c3 => RT.none)
        refine RT.goto rfl ?_
        refine RS.slot 15 (sq eS [(rdE eS l0 x8).extract 0 4]) (Le.lit (E := eS) (l := [(rdE eS l0 x8).extract 0 4]) (cells_of rfl)) ?_
        refine RS.go ?_
        refine RT.req rfl ⟨by first | rfl | simp, by first | exact Nat.le_refl _ | simp⟩ ?_
        refine RT.not rfl (by simp <;> omega) ?_
        refine RT.br rfl (fun c4 => ?_) (fun _ => RT.none)
        refine RT.goto rfl ?_
        refine RS.obj 3 (bufE eS (o3 ++ [(rdE eS l0 x8).extract 0 4])) ⟨_, rfl, LeO.app (l := o3) (m := [(rdE eS l0 x8).extract 0 4]) fun _ _ _ _ => rfl⟩ ?_
        refine RS.slot 16 (.osl 3 eS.w 0 (o3 ++ [(rdE eS l0 x8).extract 0 4]).length (o3 ++ [(rdE eS l0 x8).extract 0 4]).length) (by first | exact Le.oslN rfl (by simp) | exact Le.trans (y := .osl 3 eS.w 0 (o3.length + 1) (o3.length + 1)) (Le.refl _) (Le.oslN rfl (by simp))) ?_
        refine RS.go ?_
        refine RT.goto rfl ?_
        refine RS.weak [(3, .osl 3 eS.w 0 (o3 ++ [(rdE eS l0 x8).extract 0 4]).length (o3 ++ [(rdE eS l0 x8).extract 0 4]).length), (6, sq eS l0), (7, .int .i64 (l0.length : Int)), (8, .int .i64 (wrap64 (x8 + 1)))] [(3, bufE eS (o3 ++ [(rdE eS l0 x8).extract 0 4]))] ⟨(by first | exact Le.oslN rfl (by first | rfl | simp) | exact Le.refl _ | exact Le.eq (by first | rfl | simp)), Le.eq (by first | rfl | simp), Le.eq (by first | rfl | simp), Le.eq (by first | rfl | simp), trivial⟩ ⟨⟨_, rfl, LeO.refl _⟩, trivial⟩ rfl (dom0 rfl) ?_
        exact ih l0 (wrap64 (x8 + 1)) (o3 ++ [(rdE eS l0 x8).extract 0 4]) 
      · refine RT.goto rfl ?_
        refine RS.freeze 3 _ _ _ [(3, sq eS o3)] [] rfl ⟨.inr ⟨_, rfl, by first | exact Nat.le_refl _ | simp, rfl⟩, trivial⟩ trivial rfl (dom0 rfl) ?_
        refine RS.region ?_
        refine RS.go ?_
        refine RT.call0 rfl (fun _ h => pileref1_once.ok o3 _ h) (LeL.eq rfl) (fun _ => rfl) (fun r5 => ?_)
        refine RS.go ?_
        exact RT.done rfl rfl (Le.refl _) trivial rfl (dom0 rfl)
theorem pileref1_SquaresOf.ok (k : Nat) (l0 : List ByteArray) (r : (List ByteArray)) (h : pileref1_SquaresOf.f k l0 = some r) : Ct Tryz.prog B 29 [sq eS l0] (ofL []) (sq eS r) (ofL []) := by
  refine Ct.of (Y := (fam Tryz.f29 [7] [] [] (fun r : (List ByteArray) => sq eS r) (fun r => []))) Tryz.func29 rfl Tryz.call29 rfl rfl ?_ r h
  unfold pileref1_SquaresOf.f
  refine RS.go ?_
  refine RT.goto rfl ?_
  refine RS.ghost 3 3 eS.w (rep eS []) rfl rfl ?_
  refine RS.weak [(3, .osl 3 eS.w 0 ([] : List ByteArray).length ([] : List ByteArray).length), (6, sq eS l0), (7, .int .i64 (l0.length : Int)), (8, .int .i64 0)] [(3, bufE eS ([] : List ByteArray))] ⟨(by first | exact Le.oslN rfl (by first | rfl | simp) | exact Le.refl _ | exact Le.eq (by first | rfl | simp)), Le.eq (by first | rfl | simp), Le.eq (by first | rfl | simp), Le.eq (by first | rfl | simp), trivial⟩ ⟨⟨_, rfl, LeO.refl _⟩, trivial⟩ rfl (dom0 rfl) ?_
  exact pileref1_SquaresOf.loops k l0 0 [] 
end Go.EV
