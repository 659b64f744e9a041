/- Printed by a program of this session: a Lean function for each function that the law reaches, and that the code comes to it. -/
import Derived.Test.YtfbepmnpdnekdaaDoorXMarksHearda
set_option linter.unusedVariables false
set_option linter.unusedSimpArgs false
namespace Go.EV
open Go Go.Proofs Go.RowKit
set_option maxHeartbeats 4000000
set_option maxRecDepth 100000
set_option linter.unusedVariables false
/-! ### pileref1_HeardOf: function 22 -/
mutual
def pileref1_HeardOf.j4 : Nat → List Int → Int → Int → Int → Option (ByteArray × Int × Int × Bool)
  | 0, _, _, _, _ => Option.none
  | k + 1, l0, x5, o4_1j4, o4_2j4 => pileref1_HeardOf.l0 k l0 (wrap64 (x5 - 1)) o4_1j4 o4_2j4
def pileref1_HeardOf.l1 : Nat → List Int → Int → Int → Int → Int → Int → Option (ByteArray × Int × Int × Bool)
  | 0, _, _, _, _, _, _ => Option.none
  | k + 1, l0, x5, o4_1, o4_2, x6b, x16b => (if x16b < (l0.length : Int) then ((pileref1_nearest.f k l0 x16b x5).bind fun r1 => pileref1_HeardOf.l1 k l0 x5 o4_1 o4_2 (wrap64 (x6b + r1.2)) (wrap64 (x16b + 1))) else (if o4_1 = 0 then pileref1_HeardOf.j4 k l0 x5 x5 x6b else (if x6b < o4_2 then pileref1_HeardOf.j4 k l0 x5 x5 x6b else pileref1_HeardOf.j4 k l0 x5 o4_1 o4_2)))
def pileref1_HeardOf.l0 : Nat → List Int → Int → Int → Int → Option (ByteArray × Int × Int × Bool)
  | 0, _, _, _, _ => Option.none
  | k + 1, l0, x5, o4_1, o4_2 => (if x5 ≥ 1 then pileref1_HeardOf.l1 k l0 x5 o4_1 o4_2 0 0 else ((pileref1_WithUnit.f k l0 o4_1).bind fun r5 => (if (r5.1.size : Int) > 500 then Option.some ((⟨#[]⟩ : ByteArray), 0, 0, false) else Option.some (r5.1, o4_1, o4_2, true))))
end
def pileref1_HeardOf.f (k : Nat) (l0 : List Int) : Option (ByteArray × Int × Int × Bool) := pileref1_HeardOf.l0 k l0 2000 0 0
theorem pileref1_HeardOf.loops : ∀ k, (∀ (l0 : List Int) (x5 : Int) (o4_1j4 : Int) (o4_2j4 : Int), RS (fam Tryd.f22 [4] [] [] (fun r : ByteArray × Int × Int × Bool => .tup [.agg [.str r.1, .int .i64 r.2.1, .int .i64 r.2.2.1], .bool r.2.2.2]) (fun r => [])) (Func.reg Tryd.f22 4) ⟨ofT [(0, sq eI l0), (2, .ref 2 0 0 0 3), (4, .ref 4 0 0 0 3), (5, .int .i64 x5)], ofL [(2, .box [.str (⟨#[]⟩ : ByteArray), .int .i64 0, .int .i64 0]), (4, .box [.str (⟨#[]⟩ : ByteArray), .int .i64 o4_1j4, .int .i64 o4_2j4])]⟩ (pileref1_HeardOf.j4 k l0 x5 o4_1j4 o4_2j4)) ∧ (∀ (l0 : List Int) (x5 : Int) (o4_1 : Int) (o4_2 : Int) (x6b : Int) (x16b : Int), RS (fam Tryd.f22 [4] [] [] (fun r : ByteArray × Int × Int × Bool => .tup [.agg [.str r.1, .int .i64 r.2.1, .int .i64 r.2.2.1], .bool r.2.2.2]) (fun r => [])) (Func.head Tryd.f22 1) ⟨ofT [(0, sq eI l0), (2, .ref 2 0 0 0 3), (4, .ref 4 0 0 0 3), (5, .int .i64 x5), (6, .int .i64 x6b), (15, .int .i64 (l0.length : Int)), (16, .int .i64 x16b)], ofL [(2, .box [.str (⟨#[]⟩ : ByteArray), .int .i64 0, .int .i64 0]), (4, .box [.str (⟨#[]⟩ : ByteArray), .int .i64 o4_1, .int .i64 o4_2])]⟩ (pileref1_HeardOf.l1 k l0 x5 o4_1 o4_2 x6b x16b)) ∧ (∀ (l0 : List Int) (x5 : Int) (o4_1 : Int) (o4_2 : Int), RS (fam Tryd.f22 [4] [] [] (fun r : ByteArray × Int × Int × Bool => .tup [.agg [.str r.1, .int .i64 r.2.1, .int .i64 r.2.2.1], .bool r.2.2.2]) (fun r => [])) (Func.head Tryd.f22 0) ⟨ofT [(0, sq eI l0), (2, .ref 2 0 0 0 3), (4, .ref 4 0 0 0 3), (5, .int .i64 x5)], ofL [(2, .box [.str (⟨#[]⟩ : ByteArray), .int .i64 0, .int .i64 0]), (4, .box [.str (⟨#[]⟩ : ByteArray), .int .i64 o4_1, .int .i64 o4_2])]⟩ (pileref1_HeardOf.l0 k l0 x5 o4_1 o4_2))
  | 0 => ⟨by intro _ _ _ _; simp only [pileref1_HeardOf.j4]; exact RS.none, by intro _ _ _ _ _ _; simp only [pileref1_HeardOf.l1]; exact RS.none, by intro _ _ _ _; simp only [pileref1_HeardOf.l0]; exact RS.none⟩
  | k + 1 => by
    have ih := pileref1_HeardOf.loops k
    refine ⟨?_, ?_, ?_⟩
    · intro l0 x5 o4_1j4 o4_2j4
      simp only [pileref1_HeardOf.j4]
      refine RS.region ?_
      refine RS.go ?_
      refine RT.goto rfl ?_
      refine RS.weak [(0, sq eI l0), (2, .ref 2 0 0 0 3), (4, .ref 4 0 0 0 3), (5, .int .i64 (wrap64 (x5 - 1)))] [(2, .box [.str (⟨#[]⟩ : ByteArray), .int .i64 0, .int .i64 0]), (4, .box [.str (⟨#[]⟩ : ByteArray), .int .i64 o4_1j4, .int .i64 o4_2j4])] ⟨Le.eq (by first | rfl | simp), Le.eq (by first | rfl | simp), Le.eq (by first | rfl | simp), Le.eq (by first | rfl | simp), trivial⟩ ⟨⟨_, rfl, LeO.refl _⟩, ⟨_, rfl, LeO.refl _⟩, trivial⟩ rfl (dom0 rfl) ?_
      exact ih.2.2 l0 (wrap64 (x5 - 1)) o4_1j4 o4_2j4 
    · intro l0 x5 o4_1 o4_2 x6b x16b
      simp only [pileref1_HeardOf.l1]
      refine RS.go ?_
      refine RT.br rfl (fun c4 => ?_) (fun c4 => ?_)
      · refine RT.call0 rfl (fun _ h => pileref1_nearest.ok k l0 x16b x5 _ h) (LeL.eq rfl) (fun _ => rfl) (fun r1 => ?_)
        refine RS.go ?_
        refine RT.goto rfl ?_
        refine RS.weak [(0, sq eI l0), (2, .ref 2 0 0 0 3), (4, .ref 4 0 0 0 3), (5, .int .i64 x5), (6, .int .i64 (wrap64 (x6b + r1.2))), (15, .int .i64 (l0.length : Int)), (16, .int .i64 (wrap64 (x16b + 1)))] [(2, .box [.str (⟨#[]⟩ : ByteArray), .int .i64 0, .int .i64 0]), (4, .box [.str (⟨#[]⟩ : ByteArray), .int .i64 o4_1, .int .i64 o4_2])] ⟨Le.eq (by first | rfl | simp), Le.eq (by first | rfl | simp), Le.eq (by first | rfl | simp), Le.eq (by first | rfl | simp), Le.eq (by first | rfl | simp), Le.eq (by first | rfl | simp), Le.eq (by first | rfl | simp), trivial⟩ ⟨⟨_, rfl, LeO.refl _⟩, ⟨_, rfl, LeO.refl _⟩, trivial⟩ rfl (dom0 rfl) ?_
        exact ih.2.1 l0 x5 o4_1 o4_2 (wrap64 (x6b + r1.2)) (wrap64 (x16b + 1)) 
      · refine RT.br rfl (fun c3 => ?_) (fun c3 => ?_)
        · refine RT.brT rfl ?_
          refine RT.brT rfl ?_
          refine RT.brT rfl ?_
          refine RT.brT rfl ?_
          refine RT.brT rfl ?_
          refine RT.goto rfl ?_
          refine RS.weak [(0, sq eI l0), (2, .ref 2 0 0 0 3), (4, .ref 4 0 0 0 3), (5, .int .i64 x5)] [(2, .box [.str (⟨#[]⟩ : ByteArray), .int .i64 0, .int .i64 0]), (4, .box [.str (⟨#[]⟩ : ByteArray), .int .i64 x5, .int .i64 x6b])] ⟨Le.eq (by first | rfl | simp), Le.eq (by first | rfl | simp), Le.eq (by first | rfl | simp), Le.eq (by first | rfl | simp), trivial⟩ ⟨⟨_, rfl, LeO.refl _⟩, ⟨_, rfl, LeO.refl _⟩, trivial⟩ rfl (dom0 rfl) ?_
          exact ih.1 l0 x5 x5 x6b 
        · refine RT.brF rfl ?_
          refine RT.brF rfl ?_
          refine RT.brF rfl ?_
          refine RT.brF rfl ?_
          refine RT.br rfl (fun c2 => ?_) (fun c2 => ?_)
          · refine RT.goto rfl ?_
            refine RS.weak [(0, sq eI l0), (2, .ref 2 0 0 0 3), (4, .ref 4 0 0 0 3), (5, .int .i64 x5)] [(2, .box [.str (⟨#[]⟩ : ByteArray), .int .i64 0, .int .i64 0]), (4, .box [.str (⟨#[]⟩ : ByteArray), .int .i64 x5, .int .i64 x6b])] ⟨Le.eq (by first | rfl | simp), Le.eq (by first | rfl | simp), Le.eq (by first | rfl | simp), Le.eq (by first | rfl | simp), trivial⟩ ⟨⟨_, rfl, LeO.refl _⟩, ⟨_, rfl, LeO.refl _⟩, trivial⟩ rfl (dom0 rfl) ?_
            exact ih.1 l0 x5 x5 x6b 
          · refine RT.goto rfl ?_
            refine RS.weak [(0, sq eI l0), (2, .ref 2 0 0 0 3), (4, .ref 4 0 0 0 3), (5, .int .i64 x5)] [(2, .box [.str (⟨#[]⟩ : ByteArray), .int .i64 0, .int .i64 0]), (4, .box [.str (⟨#[]⟩ : ByteArray), .int .i64 o4_1, .int .i64 o4_2])] ⟨Le.eq (by first | rfl | simp), Le.eq (by first | rfl | simp), Le.eq (by first | rfl | simp), Le.eq (by first | rfl | simp), trivial⟩ ⟨⟨_, rfl, LeO.refl _⟩, ⟨_, rfl, LeO.refl _⟩, trivial⟩ rfl (dom0 rfl) ?_
            exact ih.1 l0 x5 o4_1 o4_2 
    · intro l0 x5 o4_1 o4_2
      simp only [pileref1_HeardOf.l0]
      refine RS.go ?_
      refine RT.br rfl (fun c7 => ?_) (fun c7 => ?_)
      · refine RT.goto rfl ?_
        refine RS.weak [(0, sq eI l0), (2, .ref 2 0 0 0 3), (4, .ref 4 0 0 0 3), (5, .int .i64 x5), (6, .int .i64 0), (15, .int .i64 (l0.length : Int)), (16, .int .i64 0)] [(2, .box [.str (⟨#[]⟩ : ByteArray), .int .i64 0, .int .i64 0]), (4, .box [.str (⟨#[]⟩ : ByteArray), .int .i64 o4_1, .int .i64 o4_2])] ⟨Le.eq (by first | rfl | simp), Le.eq (by first | rfl | simp), Le.eq (by first | rfl | simp), Le.eq (by first | rfl | simp), Le.eq (by first | rfl | simp), Le.eq (by first | rfl | simp), Le.eq (by first | rfl | simp), trivial⟩ ⟨⟨_, rfl, LeO.refl _⟩, ⟨_, rfl, LeO.refl _⟩, trivial⟩ rfl (dom0 rfl) ?_
        exact ih.2.1 l0 x5 o4_1 o4_2 0 0 
      · refine RT.call0 rfl (fun _ h => pileref1_WithUnit.ok k l0 o4_1 _ h) (LeL.eq rfl) (fun _ => rfl) (fun r5 => ?_)
        refine RS.go ?_
        refine RT.br rfl (fun c6 => ?_) (fun c6 => ?_)
        · exact RT.done rfl rfl (Le.tup (LeL.cons (Le.refl _) (LeL.cons (Le.refl _) (LeL.nil)))) trivial rfl (dom0 rfl)
        · exact RT.done rfl rfl (Le.tup (LeL.cons (Le.refl _) (LeL.cons (Le.refl _) (LeL.nil)))) trivial rfl (dom0 rfl)
theorem pileref1_HeardOf.ok (k : Nat) (l0 : List Int) (r : ByteArray × Int × Int × Bool) (h : pileref1_HeardOf.f k l0 = some r) : Ct Tryd.prog B 22 [sq eI l0] (ofL []) (.tup [.agg [.str r.1, .int .i64 r.2.1, .int .i64 r.2.2.1], .bool r.2.2.2]) (ofL []) := by
  refine Ct.of (Y := (fam Tryd.f22 [4] [] [] (fun r : ByteArray × Int × Int × Bool => .tup [.agg [.str r.1, .int .i64 r.2.1, .int .i64 r.2.2.1], .bool r.2.2.2]) (fun r => []))) Tryd.func22 rfl Tryd.call22 rfl rfl ?_ r h
  unfold pileref1_HeardOf.f
  refine RS.go ?_
  refine RT.goto rfl ?_
  refine RS.weak [(0, sq eI l0), (2, .ref 2 0 0 0 3), (4, .ref 4 0 0 0 3), (5, .int .i64 2000)] [(2, .box [.str (⟨#[]⟩ : ByteArray), .int .i64 0, .int .i64 0]), (4, .box [.str (⟨#[]⟩ : ByteArray), .int .i64 0, .int .i64 0])] ⟨Le.eq (by first | rfl | simp), Le.eq (by first | rfl | simp), Le.eq (by first | rfl | simp), Le.eq (by first | rfl | simp), trivial⟩ ⟨⟨_, rfl, LeO.refl _⟩, ⟨_, rfl, LeO.refl _⟩, trivial⟩ rfl (dom0 rfl) ?_
  exact (pileref1_HeardOf.loops k).2.2 l0 2000 0 0 
/-! ### slices_Equal_int_int: function 23 -/
def slices_Equal_int_int.k0 : List DK := [⟨[19, 23], [], [24], []⟩, ⟨[22], [], [23], []⟩, ⟨[20, 21], [], [22], []⟩, ⟨[5], [], [21], []⟩, ⟨[1], [], [20], []⟩, ⟨[18], [], [19], []⟩, ⟨[16, 17], [], [18], []⟩, ⟨[5], [], [17], []⟩, ⟨[0], [], [16], []⟩]
def slices_Equal_int_int.k1 : List Nat := [0, 0, 3, 7, 0, 0, 48, 112, 255]
def slices_Equal_int_int.l0 : Nat → List Int → List Int → Int → Option (Bool)
  | 0, _, _, _ => Option.none
  | k + 1, l0, l1, x13 => (if x13 < (l0.length : Int) then (if 0 ≤ x13 then (if x13 < (l0.length : Int) then (if 0 ≤ x13 then (if x13 < (l1.length : Int) then (if (rd l0 x13) = (rd l1 x13) then slices_Equal_int_int.l0 k l0 l1 (wrap64 (x13 + 1)) else Option.some false) else Option.none) else Option.none) else Option.none) else Option.none) else Option.some true)
def slices_Equal_int_int.f (k : Nat) (l0 : List Int) (l1 : List Int) : Option (Bool) := (if (l0.length : Int) = (l1.length : Int) then slices_Equal_int_int.l0 k l0 l1 0 else Option.some false)
theorem slices_Equal_int_int.loops : ∀ k, (∀ (l0 : List Int) (l1 : List Int) (x13 : Int), RS (fam Tryd.f23 [] [] [] (fun r : Bool => .bool r) (fun r => [])) (Func.head Tryd.f23 0) ⟨ofT [(0, sq eI l0), (1, sq eI l1), (12, .int .i64 (l0.length : Int)), (13, .int .i64 x13)], ofL []⟩ (slices_Equal_int_int.l0 k l0 l1 x13))
  | 0 => by intro _ _ _; simp only [slices_Equal_int_int.l0]; exact RS.none
  | k + 1 => by
    have ih := slices_Equal_int_int.loops k
    · intro l0 l1 x13
      simp only [slices_Equal_int_int.l0]
      refine RS.go ?_
      refine RT.br rfl (fun c6 => ?_) (fun c6 => ?_)
      · refine RT.goto rfl ?_
        refine RS.draw rfl ?_
        refine RD.br rfl (fun c1 => ?_) (fun c1 => RD.none)
        refine RD.br rfl (fun c2 => ?_) (fun c2 => RD.none)
        refine RD.br rfl (fun c3 => ?_) (fun c3 => RD.none)
        refine RD.br rfl (fun c4 => ?_) (fun c4 => RD.none)
        refine RD.fin slices_Equal_int_int.k0 slices_Equal_int_int.k1 rfl rfl (by decide +kernel) ?_
        refine RS.go ?_
        refine RT.brN rfl (fun c5 => ?_) (fun c5 => ?_)
        · refine RT.goto rfl ?_
          refine RS.weak [(0, sq eI l0), (1, sq eI l1), (12, .int .i64 (l0.length : Int)), (13, .int .i64 (wrap64 (x13 + 1)))] [] ⟨Le.eq (by first | rfl | simp), Le.eq (by first | rfl | simp), Le.eq (by first | rfl | simp), Le.eq (by first | rfl | simp), trivial⟩ trivial rfl (dom0 rfl) ?_
          exact ih l0 l1 (wrap64 (x13 + 1)) 
        · exact RT.done rfl rfl (Le.refl _) trivial rfl (dom0 rfl)
      · exact RT.done rfl rfl (Le.refl _) trivial rfl (dom0 rfl)
theorem slices_Equal_int_int.ok (k : Nat) (l0 : List Int) (l1 : List Int) (r : Bool) (h : slices_Equal_int_int.f k l0 l1 = some r) : Ct Tryd.prog B 23 [sq eI l0, sq eI l1] (ofL []) (.bool r) (ofL []) := by
  refine Ct.of (Y := (fam Tryd.f23 [] [] [] (fun r : Bool => .bool r) (fun r => []))) Tryd.func23 rfl Tryd.call23 rfl rfl ?_ r h
  unfold slices_Equal_int_int.f
  refine RS.go ?_
  refine RT.brN rfl (fun c7 => ?_) (fun c7 => ?_)
  · refine RT.goto rfl ?_
    refine RS.weak [(0, sq eI l0), (1, sq eI l1), (12, .int .i64 (l0.length : Int)), (13, .int .i64 0)] [] ⟨Le.eq (by first | rfl | simp), Le.eq (by first | rfl | simp), Le.eq (by first | rfl | simp), Le.eq (by first | rfl | simp), trivial⟩ trivial rfl (dom0 rfl) ?_
    exact slices_Equal_int_int.loops k l0 l1 0 
  · exact RT.done rfl rfl (Le.refl _) trivial rfl (dom0 rfl)
/-! ### kit_Words: function 83 -/
def kit_Words.l0 : Nat → List ByteArray → List ByteArray → Int → Int → Option ((List ByteArray) × Bool)
  | 0, _, _, _, _ => Option.none
  | k + 1, x4, x9, x10, x11 => (if x11 < x10 then (if 0 ≤ x11 then (if x11 < (x9.length : Int) then (if (rdE eS x9 x11) = (⟨#[]⟩ : ByteArray) then Option.some ([], false) else kit_Words.l0 k x4 x9 x10 (wrap64 (x11 + 1))) else Option.none) else Option.none) else Option.some (x4, true))
def kit_Words.f (k : Nat) (a0 : ByteArray) : Option ((List ByteArray) × Bool) := ((strings_Split.f a0 (⟨#[32]⟩ : ByteArray)).bind fun r1 => kit_Words.l0 k r1 r1 (r1.length : Int) 0)
theorem kit_Words.loops : ∀ k, (∀ (x4 : List ByteArray) (x9 : List ByteArray) (x10 : Int) (x11 : Int), RS (fam Tryd.f83 [] [] [] (fun r : (List ByteArray) × Bool => .tup [sq eS r.1, .bool r.2]) (fun r => [])) (Func.head Tryd.f83 0) ⟨ofT [(4, sq eS x4), (9, sq eS x9), (10, .int .i64 x10), (11, .int .i64 x11)], ofL []⟩ (kit_Words.l0 k x4 x9 x10 x11))
  | 0 => by intro _ _ _ _; simp only [kit_Words.l0]; exact RS.none
  | k + 1 => by
    have ih := kit_Words.loops k
    · intro x4 x9 x10 x11
      simp only [kit_Words.l0]
      refine RS.go ?_
      refine RT.br rfl (fun c5 => ?_) (fun c5 => ?_)
      · refine RT.br rfl (fun c2 => ?_) (fun c2 => RT.none)
        refine RT.br rfl (fun c3 => ?_) (fun c3 => RT.none)
        refine RT.br rfl (fun c4 => ?_) (fun c4 => ?_)
        · exact RT.done rfl rfl (Le.tup (LeL.cons (Le.nil _ _) (LeL.cons (Le.refl _) (LeL.nil)))) trivial rfl (dom0 rfl)
        · refine RT.goto rfl ?_
          refine RS.weak [(4, sq eS x4), (9, sq eS x9), (10, .int .i64 x10), (11, .int .i64 (wrap64 (x11 + 1)))] [] ⟨Le.eq (by first | rfl | simp), Le.eq (by first | rfl | simp), Le.eq (by first | rfl | simp), Le.eq (by first | rfl | simp), trivial⟩ trivial rfl (dom0 rfl) ?_
          exact ih x4 x9 x10 (wrap64 (x11 + 1)) 
      · exact RT.done rfl rfl (Le.tup (LeL.cons (Le.refl _) (LeL.cons (Le.refl _) (LeL.nil)))) trivial rfl (dom0 rfl)
theorem kit_Words.ok (k : Nat) (a0 : ByteArray) (r : (List ByteArray) × Bool) (h : kit_Words.f k a0 = some r) : Ct Tryd.prog B 83 [.str a0] (ofL []) (.tup [sq eS r.1, .bool r.2]) (ofL []) := by
  refine Ct.of (Y := (fam Tryd.f83 [] [] [] (fun r : (List ByteArray) × Bool => .tup [sq eS r.1, .bool r.2]) (fun r => []))) Tryd.func83 rfl Tryd.call83 rfl rfl ?_ r h
  unfold kit_Words.f
  refine RS.go ?_
  refine RT.call0 rfl (fun _ h => strings_Split.ok a0 (⟨#[32]⟩ : ByteArray) _ h) (LeL.eq rfl) (fun _ => rfl) (fun r1 => ?_)
  refine RS.go ?_
  refine RT.goto rfl ?_
  refine RS.weak [(4, sq eS r1), (9, sq eS r1), (10, .int .i64 (r1.length : Int)), (11, .int .i64 0)] [] ⟨Le.eq (by first | rfl | simp), Le.eq (by first | rfl | simp), Le.eq (by first | rfl | simp), Le.eq (by first | rfl | simp), trivial⟩ trivial rfl (dom0 rfl) ?_
  exact kit_Words.loops k r1 r1 (r1.length : Int) 0 
/-! ### key_byBytes: function 84 -/
def key_byBytes.k0 : List DK := [⟨[11, 14, 16], [4], [], [4]⟩, ⟨[15], [3], [16], []⟩, ⟨[3], [3], [15], []⟩, ⟨[13], [], [14], []⟩, ⟨[12], [3], [13], []⟩, ⟨[3], [3], [12], []⟩, ⟨[1], [], [11], []⟩]
def key_byBytes.k1 : List Nat := [0, 0, 2, 6, 0, 16, 63]
def key_byBytes.l0 : Nat → List (ByteArray × ByteArray) → Int → Int → List (Int × ByteArray) → Option ((List (Int × ByteArray)))
  | 0, _, _, _, _ => Option.none
  | k + 1, x5, x6, x7, o4 => (if x7 < x6 then (if 0 ≤ x7 then (if x7 < (x5.length : Int) then (if 0 < (((rdE e_SS x5 x7).1).size : Int) then key_byBytes.l0 k x5 x6 (wrap64 (x7 + 1)) (mput o4 (bt ((rdE e_SS x5 x7).1) 0) ((rdE e_SS x5 x7).2)) else Option.none) else Option.none) else Option.none) else Option.some o4)
def key_byBytes.f (k : Nat) : Option ((List (Int × ByteArray))) := ((key_Codes.f k ).bind fun r1 => key_byBytes.l0 k r1 (r1.length : Int) 0 ([] : List (Int × ByteArray)))
theorem key_byBytes.loops : ∀ k, (∀ (x5 : List (ByteArray × ByteArray)) (x6 : Int) (x7 : Int) (o4 : List (Int × ByteArray)), RS (fam Tryd.f84 [] [] [] (fun r : (List (Int × ByteArray)) => .omap 4) (fun r => [(4, mapE (KL.ints .u8) (ByteArray.empty : ByteArray) AV.str r)])) (Func.head Tryd.f84 0) ⟨ofT [(1, .omap 4), (5, sq e_SS x5), (6, .int .i64 x6), (7, .int .i64 x7)], ofL [(4, mapE (KL.ints .u8) (ByteArray.empty : ByteArray) AV.str o4)]⟩ (key_byBytes.l0 k x5 x6 x7 o4))
  | 0 => by intro _ _ _ _; simp only [key_byBytes.l0]; exact RS.none
  | k + 1 => by
    have ih := key_byBytes.loops k
    · intro x5 x6 x7 o4
      simp only [key_byBytes.l0]
      refine RS.go ?_
      refine RT.br rfl (fun c5 => ?_) (fun c5 => ?_)
      · refine RT.br rfl (fun c2 => ?_) (fun c2 => RT.none)
        refine RT.br rfl (fun c3 => ?_) (fun c3 => RT.none)
        refine RT.goto rfl ?_
        refine RS.draw rfl ?_
        refine RD.brT rfl ?_
        refine RD.br rfl (fun c4 => ?_) (fun c4 => RD.none)
        refine RD.fin key_byBytes.k0 key_byBytes.k1 rfl rfl (by decide +kernel) ?_
        refine RS.obj 4 (mapE (KL.ints .u8) (ByteArray.empty : ByteArray) AV.str (mput o4 (bt ((rdE e_SS x5 x7).1) 0) ((rdE e_SS x5 x7).2))) ⟨_, rfl, LeO.putI⟩ ?_
        refine RS.go ?_
        refine RT.goto rfl ?_
        refine RS.weak [(1, .omap 4), (5, sq e_SS x5), (6, .int .i64 x6), (7, .int .i64 (wrap64 (x7 + 1)))] [(4, mapE (KL.ints .u8) (ByteArray.empty : ByteArray) AV.str (mput o4 (bt ((rdE e_SS x5 x7).1) 0) ((rdE e_SS x5 x7).2)))] ⟨Le.eq (by first | rfl | simp), Le.eq (by first | rfl | simp), Le.eq (by first | rfl | simp), Le.eq (by first | rfl | simp), trivial⟩ ⟨⟨_, rfl, LeO.refl _⟩, trivial⟩ rfl (dom0 rfl) ?_
        exact ih x5 x6 (wrap64 (x7 + 1)) (mput o4 (bt ((rdE e_SS x5 x7).1) 0) ((rdE e_SS x5 x7).2)) 
      · exact RT.done rfl rfl (Le.refl _) ⟨⟨_, rfl, LeO.refl _⟩, trivial⟩ rfl (dom0 rfl)
theorem key_byBytes.ok (k : Nat) (r : (List (Int × ByteArray))) (h : key_byBytes.f k  = some r) : Ct Tryd.prog B 84 [] (ofL []) (.omap 4) (ofL [(4, mapE (KL.ints .u8) (ByteArray.empty : ByteArray) AV.str r)]) := by
  refine Ct.of (Y := (fam Tryd.f84 [] [] [] (fun r : (List (Int × ByteArray)) => .omap 4) (fun r => [(4, mapE (KL.ints .u8) (ByteArray.empty : ByteArray) AV.str r)]))) Tryd.func84 rfl Tryd.call84 rfl rfl ?_ r h
  unfold key_byBytes.f
  refine RS.go ?_
  refine RT.call0 rfl (fun _ h => key_Codes.ok k  _ h) (LeL.eq rfl) (fun _ => rfl) (fun r1 => ?_)
  refine RS.go ?_
  refine RT.goto rfl ?_
  refine RS.weak [(1, .omap 4), (5, sq e_SS r1), (6, .int .i64 (r1.length : Int)), (7, .int .i64 0)] [(4, mapE (KL.ints .u8) (ByteArray.empty : ByteArray) AV.str ([] : List (Int × ByteArray)))] ⟨Le.eq (by first | rfl | simp), Le.eq (by first | rfl | simp), Le.eq (by first | rfl | simp), Le.eq (by first | rfl | simp), trivial⟩ ⟨⟨_, rfl, LeO.refl _⟩, trivial⟩ rfl (dom0 rfl) ?_
  exact key_byBytes.loops k r1 (r1.length : Int) 0 ([] : List (Int × ByteArray)) 
/-! ### key_CheckSaid: function 34 -/
mutual
def key_CheckSaid.l1 : Nat → List ByteArray → Int → Int → List (Int × ByteArray) → Int → Option (Int)
  | 0, _, _, _, _, _ => Option.none
  | k + 1, x20, x21, x22, o19, x28b => (if x28b < ((rdE eS x20 x22).size : Int) then (if 0 ≤ x28b then (if x28b < ((rdE eS x20 x22).size : Int) then (if (mget (ByteArray.empty : ByteArray) o19 (bt (rdE eS x20 x22) x28b)) = (⟨#[]⟩ : ByteArray) then Option.some 3 else key_CheckSaid.l1 k x20 x21 x22 o19 (wrap64 (x28b + 1))) else Option.none) else Option.none) else key_CheckSaid.l0 k x20 x21 (wrap64 (x22 + 1)) o19)
def key_CheckSaid.l0 : Nat → List ByteArray → Int → Int → List (Int × ByteArray) → Option (Int)
  | 0, _, _, _, _ => Option.none
  | k + 1, x20, x21, x22, o19 => (if x22 < x21 then (if 0 ≤ x22 then (if x22 < (x20.length : Int) then key_CheckSaid.l1 k x20 x21 x22 o19 0 else Option.none) else Option.none) else Option.some 0)
end
def key_CheckSaid.f (k : Nat) (a0 : ByteArray) : Option (Int) := (if (a0.size : Int) > 500 then Option.some 2 else ((kit_Words.f k a0).bind fun r1 => (if r1.2 = true then ((key_byBytes.f k ).bind fun r2 => key_CheckSaid.l0 k r1.1 (r1.1.length : Int) 0 r2) else Option.some 3)))
theorem key_CheckSaid.loops : ∀ k, (∀ (x20 : List ByteArray) (x21 : Int) (x22 : Int) (o19 : List (Int × ByteArray)) (x28b : Int), RS (fam Tryd.f34 [] [] [] (fun r : Int => .int .i64 r) (fun r => [])) (Func.head Tryd.f34 1) ⟨ofT [(5, .omap 19), (7, .str (rdE eS x20 x22)), (20, sq eS x20), (21, .int .i64 x21), (22, .int .i64 x22), (27, .int .i64 ((rdE eS x20 x22).size : Int)), (28, .int .i64 x28b)], ofL [(19, mapE (KL.ints .u8) (ByteArray.empty : ByteArray) AV.str o19)]⟩ (key_CheckSaid.l1 k x20 x21 x22 o19 x28b)) ∧ (∀ (x20 : List ByteArray) (x21 : Int) (x22 : Int) (o19 : List (Int × ByteArray)), RS (fam Tryd.f34 [] [] [] (fun r : Int => .int .i64 r) (fun r => [])) (Func.head Tryd.f34 0) ⟨ofT [(5, .omap 19), (20, sq eS x20), (21, .int .i64 x21), (22, .int .i64 x22)], ofL [(19, mapE (KL.ints .u8) (ByteArray.empty : ByteArray) AV.str o19)]⟩ (key_CheckSaid.l0 k x20 x21 x22 o19))
  | 0 => ⟨by intro _ _ _ _ _; simp only [key_CheckSaid.l1]; exact RS.none, by intro _ _ _ _; simp only [key_CheckSaid.l0]; exact RS.none⟩
  | k + 1 => by
    have ih := key_CheckSaid.loops k
    refine ⟨?_, ?_⟩
    · intro x20 x21 x22 o19 x28b
      simp only [key_CheckSaid.l1]
      refine RS.go ?_
      refine RT.br rfl (fun c8 => ?_) (fun c8 => ?_)
      · refine RT.br rfl (fun c5 => ?_) (fun c5 => RT.none)
        refine RT.br rfl (fun c6 => ?_) (fun c6 => RT.none)
        refine RT.req rfl (congrArg AV.str (map_end (l := o19) (d := (ByteArray.empty : ByteArray)))) ?_
        refine RT.br rfl (fun c7 => ?_) (fun c7 => ?_)
        · exact RT.done rfl rfl (Le.refl _) trivial rfl (dom0 rfl)
        · refine RT.goto rfl ?_
          refine RS.weak [(5, .omap 19), (7, .str (rdE eS x20 x22)), (20, sq eS x20), (21, .int .i64 x21), (22, .int .i64 x22), (27, .int .i64 ((rdE eS x20 x22).size : Int)), (28, .int .i64 (wrap64 (x28b + 1)))] [(19, mapE (KL.ints .u8) (ByteArray.empty : ByteArray) AV.str o19)] ⟨Le.eq (by first | rfl | simp), Le.eq (by first | rfl | simp), Le.eq (by first | rfl | simp), Le.eq (by first | rfl | simp), Le.eq (by first | rfl | simp), Le.eq (by first | rfl | simp), Le.eq (by first | rfl | simp), trivial⟩ ⟨⟨_, rfl, LeO.refl _⟩, trivial⟩ rfl (dom0 rfl) ?_
          exact ih.1 x20 x21 x22 o19 (wrap64 (x28b + 1)) 
      · refine RT.goto rfl ?_
        refine RS.weak [(5, .omap 19), (20, sq eS x20), (21, .int .i64 x21), (22, .int .i64 (wrap64 (x22 + 1)))] [(19, mapE (KL.ints .u8) (ByteArray.empty : ByteArray) AV.str o19)] ⟨Le.eq (by first | rfl | simp), Le.eq (by first | rfl | simp), Le.eq (by first | rfl | simp), Le.eq (by first | rfl | simp), trivial⟩ ⟨⟨_, rfl, LeO.refl _⟩, trivial⟩ rfl (dom0 rfl) ?_
        exact ih.2 x20 x21 (wrap64 (x22 + 1)) o19 
    · intro x20 x21 x22 o19
      simp only [key_CheckSaid.l0]
      refine RS.go ?_
      refine RT.br rfl (fun c9 => ?_) (fun c9 => ?_)
      · refine RT.br rfl (fun c3 => ?_) (fun c3 => RT.none)
        refine RT.br rfl (fun c4 => ?_) (fun c4 => RT.none)
        refine RT.goto rfl ?_
        refine RS.weak [(5, .omap 19), (7, .str (rdE eS x20 x22)), (20, sq eS x20), (21, .int .i64 x21), (22, .int .i64 x22), (27, .int .i64 ((rdE eS x20 x22).size : Int)), (28, .int .i64 0)] [(19, mapE (KL.ints .u8) (ByteArray.empty : ByteArray) AV.str o19)] ⟨Le.eq (by first | rfl | simp), Le.eq (by first | rfl | simp), Le.eq (by first | rfl | simp), Le.eq (by first | rfl | simp), Le.eq (by first | rfl | simp), Le.eq (by first | rfl | simp), Le.eq (by first | rfl | simp), trivial⟩ ⟨⟨_, rfl, LeO.refl _⟩, trivial⟩ rfl (dom0 rfl) ?_
        exact ih.1 x20 x21 x22 o19 0 
      · exact RT.done rfl rfl (Le.refl _) trivial rfl (dom0 rfl)
theorem key_CheckSaid.ok (k : Nat) (a0 : ByteArray) (r : Int) (h : key_CheckSaid.f k a0 = some r) : Ct Tryd.prog B 34 [.str a0] (ofL []) (.int .i64 r) (ofL []) := by
  refine Ct.of (Y := (fam Tryd.f34 [] [] [] (fun r : Int => .int .i64 r) (fun r => []))) Tryd.func34 rfl Tryd.call34 rfl rfl ?_ r h
  unfold key_CheckSaid.f
  refine RS.go ?_
  refine RT.br rfl (fun c11 => ?_) (fun c11 => ?_)
  · exact RT.done rfl rfl (Le.refl _) trivial rfl (dom0 rfl)
  · refine RT.call0 rfl (fun _ h => kit_Words.ok k a0 _ h) (LeL.eq rfl) (fun _ => rfl) (fun r1 => ?_)
    refine RS.go ?_
    refine RT.brBN rfl (fun c10 => ?_) (fun c10 => ?_)
    · refine RT.call rfl (fun _ h => key_byBytes.ok k  _ h) (fun i => bif Nat.beq i 4 then 19 else i) (LeL.eq rfl) trivial (fun _ => rfl) (fun r2 => ?_)
      refine RS.go ?_
      refine RT.goto rfl ?_
      refine RS.weak [(5, .omap 19), (20, sq eS r1.1), (21, .int .i64 (r1.1.length : Int)), (22, .int .i64 0)] [(19, mapE (KL.ints .u8) (ByteArray.empty : ByteArray) AV.str r2)] ⟨Le.eq (by first | rfl | simp), Le.eq (by first | rfl | simp), Le.eq (by first | rfl | simp), Le.eq (by first | rfl | simp), trivial⟩ ⟨⟨_, rfl, LeO.refl _⟩, trivial⟩ rfl (dom0 rfl) ?_
      exact (key_CheckSaid.loops k).2 r1.1 (r1.1.length : Int) 0 r2 
    · exact RT.done rfl rfl (Le.refl _) trivial rfl (dom0 rfl)
/-! ### key_words: function 85 -/
mutual
def key_words.l1 : Nat → List ByteArray → Int → Int → List (List ByteArray) → List (Int × ByteArray) → Int → List ByteArray → Option ((List (List ByteArray)))
  | 0, _, _, _, _, _, _, _ => Option.none
  | k + 1, x11, x12, x13, o4, o9, x19b, o7b => (if x19b < ((rdE eS x11 x13).size : Int) then (if 0 ≤ x19b then (if x19b < ((rdE eS x11 x13).size : Int) then (if o7b.length + 1 ≤ 549755813888 then key_words.l1 k x11 x12 x13 o4 o9 (wrap64 (x19b + 1)) (o7b ++ [(mget (ByteArray.empty : ByteArray) o9 (bt (rdE eS x11 x13) x19b))]) else Option.none) else Option.none) else Option.none) else (if o4.length + 1 ≤ 549755813888 then key_words.l0 k x11 x12 (wrap64 (x13 + 1)) (o4 ++ [o7b]) o9 else Option.none))
def key_words.l0 : Nat → List ByteArray → Int → Int → List (List ByteArray) → List (Int × ByteArray) → Option ((List (List ByteArray)))
  | 0, _, _, _, _, _ => Option.none
  | k + 1, x11, x12, x13, o4, o9 => (if x13 < x12 then (if 0 ≤ x13 then (if x13 < (x11.length : Int) then key_words.l1 k x11 x12 x13 o4 o9 0 [] else Option.none) else Option.none) else Option.some o4)
end
def key_words.f (k : Nat) (a0 : ByteArray) : Option ((List (List ByteArray))) := ((key_byBytes.f k ).bind fun r1 => ((strings_Split.f a0 (⟨#[32]⟩ : ByteArray)).bind fun r2 => key_words.l0 k r2 (r2.length : Int) 0 [] r1))
theorem key_words.loops : ∀ k, (∀ (x11 : List ByteArray) (x12 : Int) (x13 : Int) (o4 : List (List ByteArray)) (o9 : List (Int × ByteArray)) (x19b : Int) (o7b : List ByteArray), RS (fam Tryd.f85 [12] [] [] (fun r : (List (List ByteArray)) => sq e_L r) (fun r => [])) (Func.head Tryd.f85 1) ⟨ofT [(3, .omap 9), (4, .osl 4 e_L.w 0 o4.length o4.length), (6, .str (rdE eS x11 x13)), (7, .osl 7 eS.w 0 o7b.length o7b.length), (11, sq eS x11), (12, .int .i64 x12), (13, .int .i64 x13), (18, .int .i64 ((rdE eS x11 x13).size : Int)), (19, .int .i64 x19b)], ofL [(4, bufE e_L o4), (7, bufE eS o7b), (9, mapE (KL.ints .u8) (ByteArray.empty : ByteArray) AV.str o9)]⟩ (key_words.l1 k x11 x12 x13 o4 o9 x19b o7b)) ∧ (∀ (x11 : List ByteArray) (x12 : Int) (x13 : Int) (o4 : List (List ByteArray)) (o9 : List (Int × ByteArray)), RS (fam Tryd.f85 [12] [] [] (fun r : (List (List ByteArray)) => sq e_L r) (fun r => [])) (Func.head Tryd.f85 0) ⟨ofT [(3, .omap 9), (4, .osl 4 e_L.w 0 o4.length o4.length), (11, sq eS x11), (12, .int .i64 x12), (13, .int .i64 x13)], ofL [(4, bufE e_L o4), (9, mapE (KL.ints .u8) (ByteArray.empty : ByteArray) AV.str o9)]⟩ (key_words.l0 k x11 x12 x13 o4 o9))
  | 0 => ⟨by intro _ _ _ _ _ _ _; simp only [key_words.l1]; exact RS.none, by intro _ _ _ _ _; simp only [key_words.l0]; exact RS.none⟩
  | k + 1 => by
    have ih := key_words.loops k
    refine ⟨?_, ?_⟩
    · intro x11 x12 x13 o4 o9 x19b o7b
      simp only [key_words.l1]
      refine RS.go ?_
      refine RT.br rfl (fun c9 => ?_) (fun c9 => ?_)
      · refine RT.br rfl (fun c5 => ?_) (fun c5 => RT.none)
        refine RT.br rfl (fun c6 => ?_) (fun c6 => RT.none)
        refine RT.req rfl (congrArg AV.str (map_end (l := o9) (d := (ByteArray.empty : ByteArray)))) ?_
        refine RT.goto rfl ?_
        refine RS.slot 28 (sq eS [(mget (ByteArray.empty : ByteArray) o9 (bt (rdE eS x11 x13) x19b))]) (Le.lit (E := eS) (l := [(mget (ByteArray.empty : ByteArray) o9 (bt (rdE eS x11 x13) x19b))]) (cells_of rfl)) ?_
        refine RS.go ?_
        refine RT.req rfl ⟨by first | rfl | simp, by first | exact Nat.le_refl _ | simp⟩ ?_
        refine RT.not rfl (by simp <;> omega) ?_
        refine RT.br rfl (fun c7 => ?_) (fun _ => RT.none)
        refine RT.goto rfl ?_
        refine RS.obj 7 (bufE eS (o7b ++ [(mget (ByteArray.empty : ByteArray) o9 (bt (rdE eS x11 x13) x19b))])) ⟨_, rfl, LeO.app (l := o7b) (m := [(mget (ByteArray.empty : ByteArray) o9 (bt (rdE eS x11 x13) x19b))]) fun _ _ _ _ => rfl⟩ ?_
        refine RS.slot 29 (.osl 7 eS.w 0 (o7b ++ [(mget (ByteArray.empty : ByteArray) o9 (bt (rdE eS x11 x13) x19b))]).length (o7b ++ [(mget (ByteArray.empty : ByteArray) o9 (bt (rdE eS x11 x13) x19b))]).length) (by first | exact Le.oslN rfl (by simp) | exact Le.trans (y := .osl 7 eS.w 0 (o7b.length + 1) (o7b.length + 1)) (Le.refl _) (Le.oslN rfl (by simp))) ?_
        refine RS.go ?_
        refine RT.goto rfl ?_
        refine RS.weak [(3, .omap 9), (4, .osl 4 e_L.w 0 o4.length o4.length), (6, .str (rdE eS x11 x13)), (7, .osl 7 eS.w 0 (o7b ++ [(mget (ByteArray.empty : ByteArray) o9 (bt (rdE eS x11 x13) x19b))]).length (o7b ++ [(mget (ByteArray.empty : ByteArray) o9 (bt (rdE eS x11 x13) x19b))]).length), (11, sq eS x11), (12, .int .i64 x12), (13, .int .i64 x13), (18, .int .i64 ((rdE eS x11 x13).size : Int)), (19, .int .i64 (wrap64 (x19b + 1)))] [(4, bufE e_L o4), (7, bufE eS (o7b ++ [(mget (ByteArray.empty : ByteArray) o9 (bt (rdE eS x11 x13) x19b))])), (9, mapE (KL.ints .u8) (ByteArray.empty : ByteArray) AV.str o9)] ⟨Le.eq (by first | rfl | simp), (by first | exact Le.oslN rfl (by first | rfl | simp) | exact Le.refl _ | exact Le.eq (by first | rfl | simp)), Le.eq (by first | rfl | simp), (by first | exact Le.oslN rfl (by first | rfl | simp) | exact Le.refl _ | exact Le.eq (by first | rfl | simp)), Le.eq (by first | rfl | simp), Le.eq (by first | rfl | simp), Le.eq (by first | rfl | simp), Le.eq (by first | rfl | simp), Le.eq (by first | rfl | simp), trivial⟩ ⟨⟨_, rfl, LeO.refl _⟩, ⟨_, rfl, LeO.refl _⟩, ⟨_, rfl, LeO.refl _⟩, trivial⟩ rfl (dom0 rfl) ?_
        exact ih.1 x11 x12 x13 o4 o9 (wrap64 (x19b + 1)) (o7b ++ [(mget (ByteArray.empty : ByteArray) o9 (bt (rdE eS x11 x13) x19b))]) 
      · refine RT.goto rfl ?_
        refine RS.freeze 7 _ _ _ [(3, .omap 9), (4, .osl 4 e_L.w 0 o4.length o4.length), (7, sq eS o7b), (11, sq eS x11), (12, .int .i64 x12), (13, .int .i64 x13)] [(4, bufE e_L o4), (9, mapE (KL.ints .u8) (ByteArray.empty : ByteArray) AV.str o9)] rfl ⟨.inl (Le.refl _), .inl (Le.refl _), .inr ⟨_, rfl, by first | exact Nat.le_refl _ | simp, rfl⟩, .inl (Le.refl _), .inl (Le.refl _), .inl (Le.refl _), trivial⟩ ⟨⟨_, rfl, LeO.refl _⟩, ⟨_, rfl, LeO.refl _⟩, trivial⟩ rfl (dom0 rfl) ?_
        refine RS.region ?_
        refine RS.go ?_
        refine RT.goto rfl ?_
        refine RS.slot 33 (sq e_L [o7b]) (Le.lit (E := e_L) (l := [o7b]) (cells_of rfl)) ?_
        refine RS.go ?_
        refine RT.req rfl ⟨by first | rfl | simp, by first | exact Nat.le_refl _ | simp⟩ ?_
        refine RT.not rfl (by simp <;> omega) ?_
        refine RT.br rfl (fun c8 => ?_) (fun _ => RT.none)
        refine RT.goto rfl ?_
        refine RS.obj 4 (bufE e_L (o4 ++ [o7b])) ⟨_, rfl, LeO.app (l := o4) (m := [o7b]) fun _ _ _ _ => rfl⟩ ?_
        refine RS.slot 34 (.osl 4 e_L.w 0 (o4 ++ [o7b]).length (o4 ++ [o7b]).length) (by first | exact Le.oslN rfl (by simp) | exact Le.trans (y := .osl 4 e_L.w 0 (o4.length + 1) (o4.length + 1)) (Le.refl _) (Le.oslN rfl (by simp))) ?_
        refine RS.go ?_
        refine RT.goto rfl ?_
        refine RS.weak [(3, .omap 9), (4, .osl 4 e_L.w 0 (o4 ++ [o7b]).length (o4 ++ [o7b]).length), (11, sq eS x11), (12, .int .i64 x12), (13, .int .i64 (wrap64 (x13 + 1)))] [(4, bufE e_L (o4 ++ [o7b])), (9, mapE (KL.ints .u8) (ByteArray.empty : ByteArray) AV.str o9)] ⟨Le.eq (by first | rfl | simp), (by first | exact Le.oslN rfl (by first | rfl | simp) | exact Le.refl _ | exact Le.eq (by first | rfl | simp)), Le.eq (by first | rfl | simp), Le.eq (by first | rfl | simp), Le.eq (by first | rfl | simp), trivial⟩ ⟨⟨_, rfl, LeO.refl _⟩, ⟨_, rfl, LeO.refl _⟩, trivial⟩ rfl (dom0 rfl) ?_
        exact ih.2 x11 x12 (wrap64 (x13 + 1)) (o4 ++ [o7b]) o9 
    · intro x11 x12 x13 o4 o9
      simp only [key_words.l0]
      refine RS.go ?_
      refine RT.br rfl (fun c10 => ?_) (fun c10 => ?_)
      · refine RT.br rfl (fun c3 => ?_) (fun c3 => RT.none)
        refine RT.br rfl (fun c4 => ?_) (fun c4 => RT.none)
        refine RT.goto rfl ?_
        refine RS.ghost 7 7 eS.w (rep eS []) rfl rfl ?_
        refine RS.weak [(3, .omap 9), (4, .osl 4 e_L.w 0 o4.length o4.length), (6, .str (rdE eS x11 x13)), (7, .osl 7 eS.w 0 ([] : List ByteArray).length ([] : List ByteArray).length), (11, sq eS x11), (12, .int .i64 x12), (13, .int .i64 x13), (18, .int .i64 ((rdE eS x11 x13).size : Int)), (19, .int .i64 0)] [(4, bufE e_L o4), (7, bufE eS ([] : List ByteArray)), (9, mapE (KL.ints .u8) (ByteArray.empty : ByteArray) AV.str o9)] ⟨Le.eq (by first | rfl | simp), (by first | exact Le.oslN rfl (by first | rfl | simp) | exact Le.refl _ | exact Le.eq (by first | rfl | simp)), Le.eq (by first | rfl | simp), (by first | exact Le.oslN rfl (by first | rfl | simp) | exact Le.refl _ | exact Le.eq (by first | rfl | simp)), Le.eq (by first | rfl | simp), Le.eq (by first | rfl | simp), Le.eq (by first | rfl | simp), Le.eq (by first | rfl | simp), Le.eq (by first | rfl | simp), trivial⟩ ⟨⟨_, rfl, LeO.refl _⟩, ⟨_, rfl, LeO.refl _⟩, ⟨_, rfl, LeO.refl _⟩, trivial⟩ rfl (dom0 rfl) ?_
        exact ih.1 x11 x12 x13 o4 o9 0 [] 
      · refine RT.freeze 4 _ _ _ [(2, sq e_L o4)] [] rfl rfl ⟨.inr ⟨_, rfl, by first | exact Nat.le_refl _ | simp, rfl⟩, trivial⟩ trivial rfl (dom0 rfl) ?_
        exact RT.done rfl rfl (Le.refl _) trivial rfl (dom0 rfl)
theorem key_words.ok (k : Nat) (a0 : ByteArray) (r : (List (List ByteArray))) (h : key_words.f k a0 = some r) : Ct Tryd.prog B 85 [.str a0] (ofL []) (sq e_L r) (ofL []) := by
  refine Ct.of (Y := (fam Tryd.f85 [12] [] [] (fun r : (List (List ByteArray)) => sq e_L r) (fun r => []))) Tryd.func85 rfl Tryd.call85 rfl rfl ?_ r h
  unfold key_words.f
  refine RS.go ?_
  refine RT.call rfl (fun _ h => key_byBytes.ok k  _ h) (fun i => bif Nat.beq i 4 then 9 else i) (LeL.eq rfl) trivial (fun _ => rfl) (fun r1 => ?_)
  refine RS.go ?_
  refine RT.call0 rfl (fun _ h => strings_Split.ok a0 (⟨#[32]⟩ : ByteArray) _ h) (LeL.eq rfl) (fun _ => rfl) (fun r2 => ?_)
  refine RS.go ?_
  refine RT.goto rfl ?_
  refine RS.ghost 4 4 e_L.w (rep e_L []) rfl rfl ?_
  refine RS.weak [(3, .omap 9), (4, .osl 4 e_L.w 0 ([] : List (List ByteArray)).length ([] : List (List ByteArray)).length), (11, sq eS r2), (12, .int .i64 (r2.length : Int)), (13, .int .i64 0)] [(4, bufE e_L ([] : List (List ByteArray))), (9, mapE (KL.ints .u8) (ByteArray.empty : ByteArray) AV.str r1)] ⟨Le.eq (by first | rfl | simp), (by first | exact Le.oslN rfl (by first | rfl | simp) | exact Le.refl _ | exact Le.eq (by first | rfl | simp)), Le.eq (by first | rfl | simp), Le.eq (by first | rfl | simp), Le.eq (by first | rfl | simp), trivial⟩ ⟨⟨_, rfl, LeO.refl _⟩, ⟨_, rfl, LeO.refl _⟩, trivial⟩ rfl (dom0 rfl) ?_
  exact (key_words.loops k).2 r2 (r2.length : Int) 0 [] r1 
/-! ### key_lengths: function 75 -/
mutual
def key_lengths.j20 : Nat → Int → Int → List (List ByteArray) → Int → Int → Int → Int → List Int → Int → Option ((List Int))
  | 0, _, _, _, _, _, _, _, _, _ => Option.none
  | k + 1, a1, a2, x15, x16, x17, x31b, x45c, o7j17, x13j20 => (if o7j17.length + 1 ≤ 549755813888 then key_lengths.l2 k a1 a2 x15 x16 x17 x31b (wrap64 (x45c + 1)) (o7j17 ++ [x13j20]) else Option.none)
def key_lengths.j17 : Nat → Int → Int → List (List ByteArray) → Int → Int → Int → Int → List Int → Option ((List Int))
  | 0, _, _, _, _, _, _, _, _ => Option.none
  | k + 1, a1, a2, x15, x16, x17, x31b, x45c, o7j17 => (if 0 ≤ x45c then (if x45c < ((rdE eS (rdE e_L x15 x17) x31b).size : Int) then (if bt (rdE eS (rdE e_L x15 x17) x31b) x45c = 45 then key_lengths.j20 k a1 a2 x15 x16 x17 x31b x45c o7j17 (wrap64 (a1 * 3)) else key_lengths.j20 k a1 a2 x15 x16 x17 x31b x45c o7j17 a1) else Option.none) else Option.none)
def key_lengths.l2 : Nat → Int → Int → List (List ByteArray) → Int → Int → Int → Int → List Int → Option ((List Int))
  | 0, _, _, _, _, _, _, _, _ => Option.none
  | k + 1, a1, a2, x15, x16, x17, x31b, x45c, o7c => (if x45c < ((rdE eS (rdE e_L x15 x17) x31b).size : Int) then (if x45c > 0 then (if o7c.length + 1 ≤ 549755813888 then key_lengths.j17 k a1 a2 x15 x16 x17 x31b x45c (o7c ++ [a1]) else Option.none) else key_lengths.j17 k a1 a2 x15 x16 x17 x31b x45c o7c) else key_lengths.l1 k a1 a2 x15 x16 x17 (wrap64 (x31b + 1)) o7c)
def key_lengths.j12 : Nat → Int → Int → List (List ByteArray) → Int → Int → Int → List Int → Option ((List Int))
  | 0, _, _, _, _, _, _, _ => Option.none
  | k + 1, a1, a2, x15, x16, x17, x31b, o7j12 => key_lengths.l2 k a1 a2 x15 x16 x17 x31b 0 o7j12
def key_lengths.l1 : Nat → Int → Int → List (List ByteArray) → Int → Int → Int → List Int → Option ((List Int))
  | 0, _, _, _, _, _, _, _ => Option.none
  | k + 1, a1, a2, x15, x16, x17, x31b, o7b => (if x31b < ((rdE e_L x15 x17).length : Int) then (if 0 ≤ x31b then (if x31b < ((rdE e_L x15 x17).length : Int) then (if x31b > 0 then (if o7b.length + 1 ≤ 549755813888 then key_lengths.j12 k a1 a2 x15 x16 x17 x31b (o7b ++ [wrap64 (3 * a2)]) else Option.none) else key_lengths.j12 k a1 a2 x15 x16 x17 x31b o7b) else Option.none) else Option.none) else key_lengths.l0 k a1 a2 x15 x16 (wrap64 (x17 + 1)) o7b)
def key_lengths.j7 : Nat → Int → Int → List (List ByteArray) → Int → Int → List Int → Option ((List Int))
  | 0, _, _, _, _, _, _ => Option.none
  | k + 1, a1, a2, x15, x16, x17, o7j7 => key_lengths.l1 k a1 a2 x15 x16 x17 0 o7j7
def key_lengths.l0 : Nat → Int → Int → List (List ByteArray) → Int → Int → List Int → Option ((List Int))
  | 0, _, _, _, _, _, _ => Option.none
  | k + 1, a1, a2, x15, x16, x17, o7 => (if x17 < x16 then (if 0 ≤ x17 then (if x17 < (x15.length : Int) then (if x17 > 0 then (if o7.length + 1 ≤ 549755813888 then key_lengths.j7 k a1 a2 x15 x16 x17 (o7 ++ [wrap64 (7 * a2)]) else Option.none) else key_lengths.j7 k a1 a2 x15 x16 x17 o7) else Option.none) else Option.none) else Option.some o7)
end
def key_lengths.f (k : Nat) (a0 : ByteArray) (a1 : Int) (a2 : Int) : Option ((List Int)) := ((key_words.f k a0).bind fun r1 => key_lengths.l0 k a1 a2 r1 (r1.length : Int) 0 [])
theorem key_lengths.loops : ∀ k, (∀ (a1 : Int) (a2 : Int) (x15 : List (List ByteArray)) (x16 : Int) (x17 : Int) (x31b : Int) (x45c : Int) (o7j17 : List Int) (x13j20 : Int), RS (fam Tryd.f75 [7, 12, 17, 20] [] [] (fun r : (List Int) => sq eI r) (fun r => [])) (Func.reg Tryd.f75 20) ⟨ofT [(1, .int .i64 a1), (2, .int .i64 a2), (7, .osl 7 eI.w 0 o7j17.length o7j17.length), (11, .str (rdE eS (rdE e_L x15 x17) x31b)), (13, .int .i64 x13j20), (15, sq e_L x15), (16, .int .i64 x16), (17, .int .i64 x17), (29, sq eS (rdE e_L x15 x17)), (30, .int .i64 ((rdE e_L x15 x17).length : Int)), (31, .int .i64 x31b), (44, .int .i64 ((rdE eS (rdE e_L x15 x17) x31b).size : Int)), (45, .int .i64 x45c)], ofL [(7, bufE eI o7j17)]⟩ (key_lengths.j20 k a1 a2 x15 x16 x17 x31b x45c o7j17 x13j20)) ∧ (∀ (a1 : Int) (a2 : Int) (x15 : List (List ByteArray)) (x16 : Int) (x17 : Int) (x31b : Int) (x45c : Int) (o7j17 : List Int), RS (fam Tryd.f75 [7, 12, 17, 20] [] [] (fun r : (List Int) => sq eI r) (fun r => [])) (Func.reg Tryd.f75 17) ⟨ofT [(1, .int .i64 a1), (2, .int .i64 a2), (7, .osl 7 eI.w 0 o7j17.length o7j17.length), (11, .str (rdE eS (rdE e_L x15 x17) x31b)), (12, .int .i64 x45c), (15, sq e_L x15), (16, .int .i64 x16), (17, .int .i64 x17), (29, sq eS (rdE e_L x15 x17)), (30, .int .i64 ((rdE e_L x15 x17).length : Int)), (31, .int .i64 x31b), (44, .int .i64 ((rdE eS (rdE e_L x15 x17) x31b).size : Int)), (45, .int .i64 x45c)], ofL [(7, bufE eI o7j17)]⟩ (key_lengths.j17 k a1 a2 x15 x16 x17 x31b x45c o7j17)) ∧ (∀ (a1 : Int) (a2 : Int) (x15 : List (List ByteArray)) (x16 : Int) (x17 : Int) (x31b : Int) (x45c : Int) (o7c : List Int), RS (fam Tryd.f75 [7, 12, 17, 20] [] [] (fun r : (List Int) => sq eI r) (fun r => [])) (Func.head Tryd.f75 2) ⟨ofT [(1, .int .i64 a1), (2, .int .i64 a2), (7, .osl 7 eI.w 0 o7c.length o7c.length), (11, .str (rdE eS (rdE e_L x15 x17) x31b)), (15, sq e_L x15), (16, .int .i64 x16), (17, .int .i64 x17), (29, sq eS (rdE e_L x15 x17)), (30, .int .i64 ((rdE e_L x15 x17).length : Int)), (31, .int .i64 x31b), (44, .int .i64 ((rdE eS (rdE e_L x15 x17) x31b).size : Int)), (45, .int .i64 x45c)], ofL [(7, bufE eI o7c)]⟩ (key_lengths.l2 k a1 a2 x15 x16 x17 x31b x45c o7c)) ∧ (∀ (a1 : Int) (a2 : Int) (x15 : List (List ByteArray)) (x16 : Int) (x17 : Int) (x31b : Int) (o7j12 : List Int), RS (fam Tryd.f75 [7, 12, 17, 20] [] [] (fun r : (List Int) => sq eI r) (fun r => [])) (Func.reg Tryd.f75 12) ⟨ofT [(1, .int .i64 a1), (2, .int .i64 a2), (7, .osl 7 eI.w 0 o7j12.length o7j12.length), (11, .str (rdE eS (rdE e_L x15 x17) x31b)), (15, sq e_L x15), (16, .int .i64 x16), (17, .int .i64 x17), (29, sq eS (rdE e_L x15 x17)), (30, .int .i64 ((rdE e_L x15 x17).length : Int)), (31, .int .i64 x31b)], ofL [(7, bufE eI o7j12)]⟩ (key_lengths.j12 k a1 a2 x15 x16 x17 x31b o7j12)) ∧ (∀ (a1 : Int) (a2 : Int) (x15 : List (List ByteArray)) (x16 : Int) (x17 : Int) (x31b : Int) (o7b : List Int), RS (fam Tryd.f75 [7, 12, 17, 20] [] [] (fun r : (List Int) => sq eI r) (fun r => [])) (Func.head Tryd.f75 1) ⟨ofT [(1, .int .i64 a1), (2, .int .i64 a2), (7, .osl 7 eI.w 0 o7b.length o7b.length), (15, sq e_L x15), (16, .int .i64 x16), (17, .int .i64 x17), (29, sq eS (rdE e_L x15 x17)), (30, .int .i64 ((rdE e_L x15 x17).length : Int)), (31, .int .i64 x31b)], ofL [(7, bufE eI o7b)]⟩ (key_lengths.l1 k a1 a2 x15 x16 x17 x31b o7b)) ∧ (∀ (a1 : Int) (a2 : Int) (x15 : List (List ByteArray)) (x16 : Int) (x17 : Int) (o7j7 : List Int), RS (fam Tryd.f75 [7, 12, 17, 20] [] [] (fun r : (List Int) => sq eI r) (fun r => [])) (Func.reg Tryd.f75 7) ⟨ofT [(1, .int .i64 a1), (2, .int .i64 a2), (7, .osl 7 eI.w 0 o7j7.length o7j7.length), (9, sq eS (rdE e_L x15 x17)), (15, sq e_L x15), (16, .int .i64 x16), (17, .int .i64 x17)], ofL [(7, bufE eI o7j7)]⟩ (key_lengths.j7 k a1 a2 x15 x16 x17 o7j7)) ∧ (∀ (a1 : Int) (a2 : Int) (x15 : List (List ByteArray)) (x16 : Int) (x17 : Int) (o7 : List Int), RS (fam Tryd.f75 [7, 12, 17, 20] [] [] (fun r : (List Int) => sq eI r) (fun r => [])) (Func.head Tryd.f75 0) ⟨ofT [(1, .int .i64 a1), (2, .int .i64 a2), (7, .osl 7 eI.w 0 o7.length o7.length), (15, sq e_L x15), (16, .int .i64 x16), (17, .int .i64 x17)], ofL [(7, bufE eI o7)]⟩ (key_lengths.l0 k a1 a2 x15 x16 x17 o7))
  | 0 => ⟨by intro _ _ _ _ _ _ _ _ _; simp only [key_lengths.j20]; exact RS.none, by intro _ _ _ _ _ _ _ _; simp only [key_lengths.j17]; exact RS.none, by intro _ _ _ _ _ _ _ _; simp only [key_lengths.l2]; exact RS.none, by intro _ _ _ _ _ _ _; simp only [key_lengths.j12]; exact RS.none, by intro _ _ _ _ _ _ _; simp only [key_lengths.l1]; exact RS.none, by intro _ _ _ _ _ _; simp only [key_lengths.j7]; exact RS.none, by intro _ _ _ _ _ _; simp only [key_lengths.l0]; exact RS.none⟩
  | k + 1 => by
    have ih := key_lengths.loops k
    refine ⟨?_, ?_, ?_, ?_, ?_, ?_, ?_⟩
    · intro a1 a2 x15 x16 x17 x31b x45c o7j17 x13j20
      simp only [key_lengths.j20]
      refine RS.region ?_
      refine RS.go ?_
      refine RT.goto rfl ?_
      refine RS.slot 63 (sq eI [x13j20]) (Le.lit (E := eI) (l := [x13j20]) (cells_of rfl)) ?_
      refine RS.go ?_
      refine RT.req rfl ⟨by first | rfl | simp, by first | exact Nat.le_refl _ | simp⟩ ?_
      refine RT.not rfl (by simp <;> omega) ?_
      refine RT.br rfl (fun c8 => ?_) (fun _ => RT.none)
      refine RT.goto rfl ?_
      refine RS.obj 7 (bufE eI (o7j17 ++ [x13j20])) ⟨_, rfl, LeO.app (l := o7j17) (m := [x13j20]) fun _ _ _ _ => rfl⟩ ?_
      refine RS.slot 64 (.osl 7 eI.w 0 (o7j17 ++ [x13j20]).length (o7j17 ++ [x13j20]).length) (by first | exact Le.oslN rfl (by simp) | exact Le.trans (y := .osl 7 eI.w 0 (o7j17.length + 1) (o7j17.length + 1)) (Le.refl _) (Le.oslN rfl (by simp))) ?_
      refine RS.go ?_
      refine RT.goto rfl ?_
      refine RS.weak [(1, .int .i64 a1), (2, .int .i64 a2), (7, .osl 7 eI.w 0 (o7j17 ++ [x13j20]).length (o7j17 ++ [x13j20]).length), (11, .str (rdE eS (rdE e_L x15 x17) x31b)), (15, sq e_L x15), (16, .int .i64 x16), (17, .int .i64 x17), (29, sq eS (rdE e_L x15 x17)), (30, .int .i64 ((rdE e_L x15 x17).length : Int)), (31, .int .i64 x31b), (44, .int .i64 ((rdE eS (rdE e_L x15 x17) x31b).size : Int)), (45, .int .i64 (wrap64 (x45c + 1)))] [(7, bufE eI (o7j17 ++ [x13j20]))] ⟨Le.eq (by first | rfl | simp), Le.eq (by first | rfl | simp), (by first | exact Le.oslN rfl (by first | rfl | simp) | exact Le.refl _ | exact Le.eq (by first | rfl | simp)), Le.eq (by first | rfl | simp), Le.eq (by first | rfl | simp), Le.eq (by first | rfl | simp), Le.eq (by first | rfl | simp), Le.eq (by first | rfl | simp), Le.eq (by first | rfl | simp), Le.eq (by first | rfl | simp), Le.eq (by first | rfl | simp), Le.eq (by first | rfl | simp), trivial⟩ ⟨⟨_, rfl, LeO.refl _⟩, trivial⟩ rfl (dom0 rfl) ?_
      exact ih.2.2.1 a1 a2 x15 x16 x17 x31b (wrap64 (x45c + 1)) (o7j17 ++ [x13j20]) 
    · intro a1 a2 x15 x16 x17 x31b x45c o7j17
      simp only [key_lengths.j17]
      refine RS.region ?_
      refine RS.go ?_
      refine RT.br rfl (fun c6 => ?_) (fun c6 => RT.none)
      refine RT.br rfl (fun c7 => ?_) (fun c7 => RT.none)
      refine RT.br rfl (fun c9 => ?_) (fun c9 => ?_)
      · refine RT.goto rfl ?_
        refine RS.weak [(1, .int .i64 a1), (2, .int .i64 a2), (7, .osl 7 eI.w 0 o7j17.length o7j17.length), (11, .str (rdE eS (rdE e_L x15 x17) x31b)), (13, .int .i64 (wrap64 (a1 * 3))), (15, sq e_L x15), (16, .int .i64 x16), (17, .int .i64 x17), (29, sq eS (rdE e_L x15 x17)), (30, .int .i64 ((rdE e_L x15 x17).length : Int)), (31, .int .i64 x31b), (44, .int .i64 ((rdE eS (rdE e_L x15 x17) x31b).size : Int)), (45, .int .i64 x45c)] [(7, bufE eI o7j17)] ⟨Le.eq (by first | rfl | simp), Le.eq (by first | rfl | simp), (by first | exact Le.oslN rfl (by first | rfl | simp) | exact Le.refl _ | exact Le.eq (by first | rfl | simp)), Le.eq (by first | rfl | simp), Le.eq (by first | rfl | simp), Le.eq (by first | rfl | simp), Le.eq (by first | rfl | simp), Le.eq (by first | rfl | simp), Le.eq (by first | rfl | simp), Le.eq (by first | rfl | simp), Le.eq (by first | rfl | simp), Le.eq (by first | rfl | simp), Le.eq (by first | rfl | simp), trivial⟩ ⟨⟨_, rfl, LeO.refl _⟩, trivial⟩ rfl (dom0 rfl) ?_
        exact ih.1 a1 a2 x15 x16 x17 x31b x45c o7j17 (wrap64 (a1 * 3)) 
      · refine RT.goto rfl ?_
        refine RS.weak [(1, .int .i64 a1), (2, .int .i64 a2), (7, .osl 7 eI.w 0 o7j17.length o7j17.length), (11, .str (rdE eS (rdE e_L x15 x17) x31b)), (13, .int .i64 a1), (15, sq e_L x15), (16, .int .i64 x16), (17, .int .i64 x17), (29, sq eS (rdE e_L x15 x17)), (30, .int .i64 ((rdE e_L x15 x17).length : Int)), (31, .int .i64 x31b), (44, .int .i64 ((rdE eS (rdE e_L x15 x17) x31b).size : Int)), (45, .int .i64 x45c)] [(7, bufE eI o7j17)] ⟨Le.eq (by first | rfl | simp), Le.eq (by first | rfl | simp), (by first | exact Le.oslN rfl (by first | rfl | simp) | exact Le.refl _ | exact Le.eq (by first | rfl | simp)), Le.eq (by first | rfl | simp), Le.eq (by first | rfl | simp), Le.eq (by first | rfl | simp), Le.eq (by first | rfl | simp), Le.eq (by first | rfl | simp), Le.eq (by first | rfl | simp), Le.eq (by first | rfl | simp), Le.eq (by first | rfl | simp), Le.eq (by first | rfl | simp), Le.eq (by first | rfl | simp), trivial⟩ ⟨⟨_, rfl, LeO.refl _⟩, trivial⟩ rfl (dom0 rfl) ?_
        exact ih.1 a1 a2 x15 x16 x17 x31b x45c o7j17 a1 
    · intro a1 a2 x15 x16 x17 x31b x45c o7c
      simp only [key_lengths.l2]
      refine RS.go ?_
      refine RT.br rfl (fun c12 => ?_) (fun c12 => ?_)
      · refine RT.br rfl (fun c11 => ?_) (fun c11 => ?_)
        · refine RT.goto rfl ?_
          refine RS.slot 52 (sq eI [a1]) (Le.lit (E := eI) (l := [a1]) (cells_of rfl)) ?_
          refine RS.go ?_
          refine RT.req rfl ⟨by first | rfl | simp, by first | exact Nat.le_refl _ | simp⟩ ?_
          refine RT.not rfl (by simp <;> omega) ?_
          refine RT.br rfl (fun c10 => ?_) (fun _ => RT.none)
          refine RT.goto rfl ?_
          refine RS.obj 7 (bufE eI (o7c ++ [a1])) ⟨_, rfl, LeO.app (l := o7c) (m := [a1]) fun _ _ _ _ => rfl⟩ ?_
          refine RS.slot 53 (.osl 7 eI.w 0 (o7c ++ [a1]).length (o7c ++ [a1]).length) (by first | exact Le.oslN rfl (by simp) | exact Le.trans (y := .osl 7 eI.w 0 (o7c.length + 1) (o7c.length + 1)) (Le.refl _) (Le.oslN rfl (by simp))) ?_
          refine RS.go ?_
          refine RT.goto rfl ?_
          refine RS.weak [(1, .int .i64 a1), (2, .int .i64 a2), (7, .osl 7 eI.w 0 (o7c ++ [a1]).length (o7c ++ [a1]).length), (11, .str (rdE eS (rdE e_L x15 x17) x31b)), (12, .int .i64 x45c), (15, sq e_L x15), (16, .int .i64 x16), (17, .int .i64 x17), (29, sq eS (rdE e_L x15 x17)), (30, .int .i64 ((rdE e_L x15 x17).length : Int)), (31, .int .i64 x31b), (44, .int .i64 ((rdE eS (rdE e_L x15 x17) x31b).size : Int)), (45, .int .i64 x45c)] [(7, bufE eI (o7c ++ [a1]))] ⟨Le.eq (by first | rfl | simp), Le.eq (by first | rfl | simp), (by first | exact Le.oslN rfl (by first | rfl | simp) | exact Le.refl _ | exact Le.eq (by first | rfl | simp)), Le.eq (by first | rfl | simp), Le.eq (by first | rfl | simp), Le.eq (by first | rfl | simp), Le.eq (by first | rfl | simp), Le.eq (by first | rfl | simp), Le.eq (by first | rfl | simp), Le.eq (by first | rfl | simp), Le.eq (by first | rfl | simp), Le.eq (by first | rfl | simp), Le.eq (by first | rfl | simp), trivial⟩ ⟨⟨_, rfl, LeO.refl _⟩, trivial⟩ rfl (dom0 rfl) ?_
          exact ih.2.1 a1 a2 x15 x16 x17 x31b x45c (o7c ++ [a1]) 
        · refine RT.goto rfl ?_
          refine RS.weak [(1, .int .i64 a1), (2, .int .i64 a2), (7, .osl 7 eI.w 0 o7c.length o7c.length), (11, .str (rdE eS (rdE e_L x15 x17) x31b)), (12, .int .i64 x45c), (15, sq e_L x15), (16, .int .i64 x16), (17, .int .i64 x17), (29, sq eS (rdE e_L x15 x17)), (30, .int .i64 ((rdE e_L x15 x17).length : Int)), (31, .int .i64 x31b), (44, .int .i64 ((rdE eS (rdE e_L x15 x17) x31b).size : Int)), (45, .int .i64 x45c)] [(7, bufE eI o7c)] ⟨Le.eq (by first | rfl | simp), Le.eq (by first | rfl | simp), (by first | exact Le.oslN rfl (by first | rfl | simp) | exact Le.refl _ | exact Le.eq (by first | rfl | simp)), Le.eq (by first | rfl | simp), Le.eq (by first | rfl | simp), Le.eq (by first | rfl | simp), Le.eq (by first | rfl | simp), Le.eq (by first | rfl | simp), Le.eq (by first | rfl | simp), Le.eq (by first | rfl | simp), Le.eq (by first | rfl | simp), Le.eq (by first | rfl | simp), Le.eq (by first | rfl | simp), trivial⟩ ⟨⟨_, rfl, LeO.refl _⟩, trivial⟩ rfl (dom0 rfl) ?_
          exact ih.2.1 a1 a2 x15 x16 x17 x31b x45c o7c 
      · refine RT.goto rfl ?_
        refine RS.weak [(1, .int .i64 a1), (2, .int .i64 a2), (7, .osl 7 eI.w 0 o7c.length o7c.length), (15, sq e_L x15), (16, .int .i64 x16), (17, .int .i64 x17), (29, sq eS (rdE e_L x15 x17)), (30, .int .i64 ((rdE e_L x15 x17).length : Int)), (31, .int .i64 (wrap64 (x31b + 1)))] [(7, bufE eI o7c)] ⟨Le.eq (by first | rfl | simp), Le.eq (by first | rfl | simp), (by first | exact Le.oslN rfl (by first | rfl | simp) | exact Le.refl _ | exact Le.eq (by first | rfl | simp)), Le.eq (by first | rfl | simp), Le.eq (by first | rfl | simp), Le.eq (by first | rfl | simp), Le.eq (by first | rfl | simp), Le.eq (by first | rfl | simp), Le.eq (by first | rfl | simp), trivial⟩ ⟨⟨_, rfl, LeO.refl _⟩, trivial⟩ rfl (dom0 rfl) ?_
        exact ih.2.2.2.2.1 a1 a2 x15 x16 x17 (wrap64 (x31b + 1)) o7c 
    · intro a1 a2 x15 x16 x17 x31b o7j12
      simp only [key_lengths.j12]
      refine RS.region ?_
      refine RS.go ?_
      refine RT.goto rfl ?_
      refine RS.weak [(1, .int .i64 a1), (2, .int .i64 a2), (7, .osl 7 eI.w 0 o7j12.length o7j12.length), (11, .str (rdE eS (rdE e_L x15 x17) x31b)), (15, sq e_L x15), (16, .int .i64 x16), (17, .int .i64 x17), (29, sq eS (rdE e_L x15 x17)), (30, .int .i64 ((rdE e_L x15 x17).length : Int)), (31, .int .i64 x31b), (44, .int .i64 ((rdE eS (rdE e_L x15 x17) x31b).size : Int)), (45, .int .i64 0)] [(7, bufE eI o7j12)] ⟨Le.eq (by first | rfl | simp), Le.eq (by first | rfl | simp), (by first | exact Le.oslN rfl (by first | rfl | simp) | exact Le.refl _ | exact Le.eq (by first | rfl | simp)), Le.eq (by first | rfl | simp), Le.eq (by first | rfl | simp), Le.eq (by first | rfl | simp), Le.eq (by first | rfl | simp), Le.eq (by first | rfl | simp), Le.eq (by first | rfl | simp), Le.eq (by first | rfl | simp), Le.eq (by first | rfl | simp), Le.eq (by first | rfl | simp), trivial⟩ ⟨⟨_, rfl, LeO.refl _⟩, trivial⟩ rfl (dom0 rfl) ?_
      exact ih.2.2.1 a1 a2 x15 x16 x17 x31b 0 o7j12 
    · intro a1 a2 x15 x16 x17 x31b o7b
      simp only [key_lengths.l1]
      refine RS.go ?_
      refine RT.br rfl (fun c15 => ?_) (fun c15 => ?_)
      · refine RT.br rfl (fun c4 => ?_) (fun c4 => RT.none)
        refine RT.br rfl (fun c5 => ?_) (fun c5 => RT.none)
        refine RT.br rfl (fun c14 => ?_) (fun c14 => ?_)
        · refine RT.goto rfl ?_
          refine RS.slot 41 (sq eI [wrap64 (3 * a2)]) (Le.lit (E := eI) (l := [wrap64 (3 * a2)]) (cells_of rfl)) ?_
          refine RS.go ?_
          refine RT.req rfl ⟨by first | rfl | simp, by first | exact Nat.le_refl _ | simp⟩ ?_
          refine RT.not rfl (by simp <;> omega) ?_
          refine RT.br rfl (fun c13 => ?_) (fun _ => RT.none)
          refine RT.goto rfl ?_
          refine RS.obj 7 (bufE eI (o7b ++ [wrap64 (3 * a2)])) ⟨_, rfl, LeO.app (l := o7b) (m := [wrap64 (3 * a2)]) fun _ _ _ _ => rfl⟩ ?_
          refine RS.slot 42 (.osl 7 eI.w 0 (o7b ++ [wrap64 (3 * a2)]).length (o7b ++ [wrap64 (3 * a2)]).length) (by first | exact Le.oslN rfl (by simp) | exact Le.trans (y := .osl 7 eI.w 0 (o7b.length + 1) (o7b.length + 1)) (Le.refl _) (Le.oslN rfl (by simp))) ?_
          refine RS.go ?_
          refine RT.goto rfl ?_
          refine RS.weak [(1, .int .i64 a1), (2, .int .i64 a2), (7, .osl 7 eI.w 0 (o7b ++ [wrap64 (3 * a2)]).length (o7b ++ [wrap64 (3 * a2)]).length), (11, .str (rdE eS (rdE e_L x15 x17) x31b)), (15, sq e_L x15), (16, .int .i64 x16), (17, .int .i64 x17), (29, sq eS (rdE e_L x15 x17)), (30, .int .i64 ((rdE e_L x15 x17).length : Int)), (31, .int .i64 x31b)] [(7, bufE eI (o7b ++ [wrap64 (3 * a2)]))] ⟨Le.eq (by first | rfl | simp), Le.eq (by first | rfl | simp), (by first | exact Le.oslN rfl (by first | rfl | simp) | exact Le.refl _ | exact Le.eq (by first | rfl | simp)), Le.eq (by first | rfl | simp), Le.eq (by first | rfl | simp), Le.eq (by first | rfl | simp), Le.eq (by first | rfl | simp), Le.eq (by first | rfl | simp), Le.eq (by first | rfl | simp), Le.eq (by first | rfl | simp), trivial⟩ ⟨⟨_, rfl, LeO.refl _⟩, trivial⟩ rfl (dom0 rfl) ?_
          exact ih.2.2.2.1 a1 a2 x15 x16 x17 x31b (o7b ++ [wrap64 (3 * a2)]) 
        · refine RT.goto rfl ?_
          refine RS.weak [(1, .int .i64 a1), (2, .int .i64 a2), (7, .osl 7 eI.w 0 o7b.length o7b.length), (11, .str (rdE eS (rdE e_L x15 x17) x31b)), (15, sq e_L x15), (16, .int .i64 x16), (17, .int .i64 x17), (29, sq eS (rdE e_L x15 x17)), (30, .int .i64 ((rdE e_L x15 x17).length : Int)), (31, .int .i64 x31b)] [(7, bufE eI o7b)] ⟨Le.eq (by first | rfl | simp), Le.eq (by first | rfl | simp), (by first | exact Le.oslN rfl (by first | rfl | simp) | exact Le.refl _ | exact Le.eq (by first | rfl | simp)), Le.eq (by first | rfl | simp), Le.eq (by first | rfl | simp), Le.eq (by first | rfl | simp), Le.eq (by first | rfl | simp), Le.eq (by first | rfl | simp), Le.eq (by first | rfl | simp), Le.eq (by first | rfl | simp), trivial⟩ ⟨⟨_, rfl, LeO.refl _⟩, trivial⟩ rfl (dom0 rfl) ?_
          exact ih.2.2.2.1 a1 a2 x15 x16 x17 x31b o7b 
      · refine RT.goto rfl ?_
        refine RS.weak [(1, .int .i64 a1), (2, .int .i64 a2), (7, .osl 7 eI.w 0 o7b.length o7b.length), (15, sq e_L x15), (16, .int .i64 x16), (17, .int .i64 (wrap64 (x17 + 1)))] [(7, bufE eI o7b)] ⟨Le.eq (by first | rfl | simp), Le.eq (by first | rfl | simp), (by first | exact Le.oslN rfl (by first | rfl | simp) | exact Le.refl _ | exact Le.eq (by first | rfl | simp)), Le.eq (by first | rfl | simp), Le.eq (by first | rfl | simp), Le.eq (by first | rfl | simp), trivial⟩ ⟨⟨_, rfl, LeO.refl _⟩, trivial⟩ rfl (dom0 rfl) ?_
        exact ih.2.2.2.2.2.2 a1 a2 x15 x16 (wrap64 (x17 + 1)) o7b 
    · intro a1 a2 x15 x16 x17 o7j7
      simp only [key_lengths.j7]
      refine RS.region ?_
      refine RS.go ?_
      refine RT.goto rfl ?_
      refine RS.weak [(1, .int .i64 a1), (2, .int .i64 a2), (7, .osl 7 eI.w 0 o7j7.length o7j7.length), (15, sq e_L x15), (16, .int .i64 x16), (17, .int .i64 x17), (29, sq eS (rdE e_L x15 x17)), (30, .int .i64 ((rdE e_L x15 x17).length : Int)), (31, .int .i64 0)] [(7, bufE eI o7j7)] ⟨Le.eq (by first | rfl | simp), Le.eq (by first | rfl | simp), (by first | exact Le.oslN rfl (by first | rfl | simp) | exact Le.refl _ | exact Le.eq (by first | rfl | simp)), Le.eq (by first | rfl | simp), Le.eq (by first | rfl | simp), Le.eq (by first | rfl | simp), Le.eq (by first | rfl | simp), Le.eq (by first | rfl | simp), Le.eq (by first | rfl | simp), trivial⟩ ⟨⟨_, rfl, LeO.refl _⟩, trivial⟩ rfl (dom0 rfl) ?_
      exact ih.2.2.2.2.1 a1 a2 x15 x16 x17 0 o7j7 
    · intro a1 a2 x15 x16 x17 o7
      simp only [key_lengths.l0]
      refine RS.go ?_
      refine RT.br rfl (fun c18 => ?_) (fun c18 => ?_)
      · refine RT.br rfl (fun c2 => ?_) (fun c2 => RT.none)
        refine RT.br rfl (fun c3 => ?_) (fun c3 => RT.none)
        refine RT.br rfl (fun c17 => ?_) (fun c17 => ?_)
        · refine RT.goto rfl ?_
          refine RS.slot 27 (sq eI [wrap64 (7 * a2)]) (Le.lit (E := eI) (l := [wrap64 (7 * a2)]) (cells_of rfl)) ?_
          refine RS.go ?_
          refine RT.req rfl ⟨by first | rfl | simp, by first | exact Nat.le_refl _ | simp⟩ ?_
          refine RT.not rfl (by simp <;> omega) ?_
          refine RT.br rfl (fun c16 => ?_) (fun _ => RT.none)
          refine RT.goto rfl ?_
          refine RS.obj 7 (bufE eI (o7 ++ [wrap64 (7 * a2)])) ⟨_, rfl, LeO.app (l := o7) (m := [wrap64 (7 * a2)]) fun _ _ _ _ => rfl⟩ ?_
          refine RS.slot 28 (.osl 7 eI.w 0 (o7 ++ [wrap64 (7 * a2)]).length (o7 ++ [wrap64 (7 * a2)]).length) (by first | exact Le.oslN rfl (by simp) | exact Le.trans (y := .osl 7 eI.w 0 (o7.length + 1) (o7.length + 1)) (Le.refl _) (Le.oslN rfl (by simp))) ?_
          refine RS.go ?_
          refine RT.goto rfl ?_
          refine RS.weak [(1, .int .i64 a1), (2, .int .i64 a2), (7, .osl 7 eI.w 0 (o7 ++ [wrap64 (7 * a2)]).length (o7 ++ [wrap64 (7 * a2)]).length), (9, sq eS (rdE e_L x15 x17)), (15, sq e_L x15), (16, .int .i64 x16), (17, .int .i64 x17)] [(7, bufE eI (o7 ++ [wrap64 (7 * a2)]))] ⟨Le.eq (by first | rfl | simp), Le.eq (by first | rfl | simp), (by first | exact Le.oslN rfl (by first | rfl | simp) | exact Le.refl _ | exact Le.eq (by first | rfl | simp)), Le.eq (by first | rfl | simp), Le.eq (by first | rfl | simp), Le.eq (by first | rfl | simp), Le.eq (by first | rfl | simp), trivial⟩ ⟨⟨_, rfl, LeO.refl _⟩, trivial⟩ rfl (dom0 rfl) ?_
          exact ih.2.2.2.2.2.1 a1 a2 x15 x16 x17 (o7 ++ [wrap64 (7 * a2)]) 
        · refine RT.goto rfl ?_
          refine RS.weak [(1, .int .i64 a1), (2, .int .i64 a2), (7, .osl 7 eI.w 0 o7.length o7.length), (9, sq eS (rdE e_L x15 x17)), (15, sq e_L x15), (16, .int .i64 x16), (17, .int .i64 x17)] [(7, bufE eI o7)] ⟨Le.eq (by first | rfl | simp), Le.eq (by first | rfl | simp), (by first | exact Le.oslN rfl (by first | rfl | simp) | exact Le.refl _ | exact Le.eq (by first | rfl | simp)), Le.eq (by first | rfl | simp), Le.eq (by first | rfl | simp), Le.eq (by first | rfl | simp), Le.eq (by first | rfl | simp), trivial⟩ ⟨⟨_, rfl, LeO.refl _⟩, trivial⟩ rfl (dom0 rfl) ?_
          exact ih.2.2.2.2.2.1 a1 a2 x15 x16 x17 o7 
      · refine RT.freeze 7 _ _ _ [(6, sq eI o7)] [] rfl rfl ⟨.inr ⟨_, rfl, by first | exact Nat.le_refl _ | simp, rfl⟩, trivial⟩ trivial rfl (dom0 rfl) ?_
        exact RT.done rfl rfl (Le.refl _) trivial rfl (dom0 rfl)
theorem key_lengths.ok (k : Nat) (a0 : ByteArray) (a1 : Int) (a2 : Int) (r : (List Int)) (h : key_lengths.f k a0 a1 a2 = some r) : Ct Tryd.prog B 75 [.str a0, .int .i64 a1, .int .i64 a2] (ofL []) (sq eI r) (ofL []) := by
  refine Ct.of (Y := (fam Tryd.f75 [7, 12, 17, 20] [] [] (fun r : (List Int) => sq eI r) (fun r => []))) Tryd.func75 rfl Tryd.call75 rfl rfl ?_ r h
  unfold key_lengths.f
  refine RS.go ?_
  refine RT.call0 rfl (fun _ h => key_words.ok k a0 _ h) (LeL.eq rfl) (fun _ => rfl) (fun r1 => ?_)
  refine RS.go ?_
  refine RT.goto rfl ?_
  refine RS.ghost 7 7 eI.w (rep eI []) rfl rfl ?_
  refine RS.weak [(1, .int .i64 a1), (2, .int .i64 a2), (7, .osl 7 eI.w 0 ([] : List Int).length ([] : List Int).length), (15, sq e_L r1), (16, .int .i64 (r1.length : Int)), (17, .int .i64 0)] [(7, bufE eI ([] : List Int))] ⟨Le.eq (by first | rfl | simp), Le.eq (by first | rfl | simp), (by first | exact Le.oslN rfl (by first | rfl | simp) | exact Le.refl _ | exact Le.eq (by first | rfl | simp)), Le.eq (by first | rfl | simp), Le.eq (by first | rfl | simp), Le.eq (by first | rfl | simp), trivial⟩ ⟨⟨_, rfl, LeO.refl _⟩, trivial⟩ rfl (dom0 rfl) ?_
  exact (key_lengths.loops k).2.2.2.2.2.2 a1 a2 r1 (r1.length : Int) 0 [] 
/-! ### key_Units: function 36 -/
def key_Units.l0 : Nat → Int → List Int → Int → Int → Option (Int × Int)
  | 0, _, _, _, _ => Option.none
  | k + 1, x5, x14, x15, x16 => (if x16 < x15 then (if 0 ≤ x16 then (if x16 < (x14.length : Int) then key_Units.l0 k (wrap64 (x5 + (rd x14 x16))) x14 x15 (wrap64 (x16 + 1)) else Option.none) else Option.none) else Option.some (x5, 0))
def key_Units.f (k : Nat) (a0 : ByteArray) : Option (Int × Int) := ((key_CheckSaid.f k a0).bind fun r1 => (if r1 = 0 then ((key_lengths.f k a0 1 1).bind fun r2 => key_Units.l0 k 0 r2 (r2.length : Int) 0) else Option.some (0, r1)))
theorem key_Units.loops : ∀ k, (∀ (x5 : Int) (x14 : List Int) (x15 : Int) (x16 : Int), RS (fam Tryd.f36 [] [] [] (fun r : Int × Int => .tup [.int .i64 r.1, .int .i64 r.2]) (fun r => [])) (Func.head Tryd.f36 0) ⟨ofT [(5, .int .i64 x5), (14, sq eI x14), (15, .int .i64 x15), (16, .int .i64 x16)], ofL []⟩ (key_Units.l0 k x5 x14 x15 x16))
  | 0 => by intro _ _ _ _; simp only [key_Units.l0]; exact RS.none
  | k + 1 => by
    have ih := key_Units.loops k
    · intro x5 x14 x15 x16
      simp only [key_Units.l0]
      refine RS.go ?_
      refine RT.br rfl (fun c5 => ?_) (fun c5 => ?_)
      · refine RT.br rfl (fun c3 => ?_) (fun c3 => RT.none)
        refine RT.br rfl (fun c4 => ?_) (fun c4 => RT.none)
        refine RT.goto rfl ?_
        refine RS.weak [(5, .int .i64 (wrap64 (x5 + (rd x14 x16)))), (14, sq eI x14), (15, .int .i64 x15), (16, .int .i64 (wrap64 (x16 + 1)))] [] ⟨Le.eq (by first | rfl | simp), Le.eq (by first | rfl | simp), Le.eq (by first | rfl | simp), Le.eq (by first | rfl | simp), trivial⟩ trivial rfl (dom0 rfl) ?_
        exact ih (wrap64 (x5 + (rd x14 x16))) x14 x15 (wrap64 (x16 + 1)) 
      · exact RT.done rfl rfl (Le.tup (LeL.cons (Le.refl _) (LeL.cons (Le.refl _) (LeL.nil)))) trivial rfl (dom0 rfl)
theorem key_Units.ok (k : Nat) (a0 : ByteArray) (r : Int × Int) (h : key_Units.f k a0 = some r) : Ct Tryd.prog B 36 [.str a0] (ofL []) (.tup [.int .i64 r.1, .int .i64 r.2]) (ofL []) := by
  refine Ct.of (Y := (fam Tryd.f36 [] [] [] (fun r : Int × Int => .tup [.int .i64 r.1, .int .i64 r.2]) (fun r => []))) Tryd.func36 rfl Tryd.call36 rfl rfl ?_ r h
  unfold key_Units.f
  refine RS.go ?_
  refine RT.call0 rfl (fun _ h => key_CheckSaid.ok k a0 _ h) (LeL.eq rfl) (fun _ => rfl) (fun r1 => ?_)
  refine RS.go ?_
  refine RT.brN rfl (fun c6 => ?_) (fun c6 => ?_)
  · refine RT.call0 rfl (fun _ h => key_lengths.ok k a0 1 1 _ h) (LeL.eq rfl) (fun _ => rfl) (fun r2 => ?_)
    refine RS.go ?_
    refine RT.goto rfl ?_
    refine RS.weak [(5, .int .i64 0), (14, sq eI r2), (15, .int .i64 (r2.length : Int)), (16, .int .i64 0)] [] ⟨Le.eq (by first | rfl | simp), Le.eq (by first | rfl | simp), Le.eq (by first | rfl | simp), Le.eq (by first | rfl | simp), trivial⟩ trivial rfl (dom0 rfl) ?_
    exact key_Units.loops k 0 r2 (r2.length : Int) 0 
  · exact RT.done rfl rfl (Le.tup (LeL.cons (Le.refl _) (LeL.cons (Le.refl _) (LeL.nil)))) trivial rfl (dom0 rfl)
/-! ### pilelaw1_keyed: function 24 -/
def pilelaw1_keyed.f (k : Nat) : Option (Bool) := ((key_Units.f k (⟨#[112, 97, 114, 105, 115]⟩ : ByteArray)).bind fun r1 => (if r1.2 = 0 then Option.some (decide (r1.1 = 43)) else Option.some false))
theorem pilelaw1_keyed.ok (k : Nat) (r : Bool) (h : pilelaw1_keyed.f k  = some r) : Ct Tryd.prog B 24 [] (ofL []) (.bool r) (ofL []) := by
  refine Ct.of (Y := (fam Tryd.f24 [] [] [] (fun r : Bool => .bool r) (fun r => []))) Tryd.func24 rfl Tryd.call24 rfl rfl ?_ r h
  unfold pilelaw1_keyed.f
  refine RS.go ?_
  refine RT.call0 rfl (fun _ h => key_Units.ok k (⟨#[112, 97, 114, 105, 115]⟩ : ByteArray) _ h) (LeL.eq rfl) (fun _ => rfl) (fun r1 => ?_)
  refine RS.go ?_
  refine RT.br rfl (fun c2 => ?_) (fun c2 => ?_)
  · refine RT.brT rfl ?_
    refine RT.brT rfl ?_
    exact RT.done rfl rfl (Le.refl _) trivial rfl (dom0 rfl)
  · refine RT.brF rfl ?_
    refine RT.brF rfl ?_
    exact RT.done rfl rfl (Le.refl _) trivial rfl (dom0 rfl)
/-! ### pilelaw1_MarksHeard: function 3 -/
mutual
def pilelaw1_MarksHeard.j23 : Nat → Int → ByteArray → Int → Int → List Int → Int → Bool → Int → List Int → Int → Int → ByteArray → Int → List Int → ByteArray → Int → Int → Int → List Int → Bool → ByteArray → Int → Int → Option (Bool)
  | 0, _, _, _, _, _, _, _, _, _, _, _, _, _, _, _, _, _, _, _, _, _, _, _ => Option.none
  | k + 1, x7j19, x8j19, x9j19, x10j19, x11j19, x12j19, x14j19, x15j19, x16j19, x17j19, x18j19, x20j19, x21j19, x22j19, o13_0j19, o13_1j19, o13_2j19, x19j21, x23j21, x25j23, o24_0j23, o24_1j23, o24_2j23 => (if x10j19 = x18j19 then (if x8j19 = x20j19 then (if x9j19 = x21j19 then (if x12j19 = x18j19 then ((slices_Equal_int_int.f k x11j19 x22j19).bind fun r18 => (if r18 = true then (if x15j19 = x7j19 then (if (decide (o13_0j19 = o24_0j23) && (decide (o13_1j19 = o24_1j23) && (decide (o13_2j19 = o24_2j23) && true))) = true then (if (x14j19 == x25j23) = true then (if x17j19 = x19j21 then ((slices_Equal_int_int.f k x16j19 x23j21).bind fun r19 => (if r19 = true then ((pilelaw1_keyed.f k ).bind fun r20 => Option.some r20) else Option.some false)) else Option.some false) else Option.some false) else Option.some false) else Option.some false) else Option.some false)) else Option.some false) else Option.some false) else Option.some false) else Option.some false)
def pilelaw1_MarksHeard.j21 : Nat → List Int → Int → ByteArray → Int → Int → List Int → Int → Bool → Int → List Int → Int → Int → ByteArray → Int → List Int → ByteArray → Int → Int → Int → List Int → Option (Bool)
  | 0, _, _, _, _, _, _, _, _, _, _, _, _, _, _, _, _, _, _, _, _ => Option.none
  | k + 1, x4j19, x7j19, x8j19, x9j19, x10j19, x11j19, x12j19, x14j19, x15j19, x16j19, x17j19, x18j19, x20j19, x21j19, x22j19, o13_0j19, o13_1j19, o13_2j19, x19j21, x23j21 => (if x7j19 = 0 then ((pileref1_HeardOf.f k x4j19).bind fun r17 => pilelaw1_MarksHeard.j23 k x7j19 x8j19 x9j19 x10j19 x11j19 x12j19 x14j19 x15j19 x16j19 x17j19 x18j19 x20j19 x21j19 x22j19 o13_0j19 o13_1j19 o13_2j19 x19j21 x23j21 r17.2.2.2 r17.1 r17.2.1 r17.2.2.1) else pilelaw1_MarksHeard.j23 k x7j19 x8j19 x9j19 x10j19 x11j19 x12j19 x14j19 x15j19 x16j19 x17j19 x18j19 x20j19 x21j19 x22j19 o13_0j19 o13_1j19 o13_2j19 x19j21 x23j21 false (⟨#[]⟩ : ByteArray) 0 0)
def pilelaw1_MarksHeard.j19 : Nat → List Int → Int → Int → ByteArray → Int → Int → List Int → Int → Bool → Int → List Int → Int → Int → Int → ByteArray → Int → List Int → ByteArray → Int → Int → Option (Bool)
  | 0, _, _, _, _, _, _, _, _, _, _, _, _, _, _, _, _, _, _, _, _ => Option.none
  | k + 1, x4j19, x6j19, x7j19, x8j19, x9j19, x10j19, x11j19, x12j19, x14j19, x15j19, x16j19, x17j19, x18j19, x19j19, x20j19, x21j19, x22j19, o13_0j19, o13_1j19, o13_2j19 => (if x19j19 = 0 then ((pileref1_CleanedOf.f k x4j19 x6j19).bind fun r16 => pilelaw1_MarksHeard.j21 k x4j19 x7j19 x8j19 x9j19 x10j19 x11j19 x12j19 x14j19 x15j19 x16j19 x17j19 x18j19 x20j19 x21j19 x22j19 o13_0j19 o13_1j19 o13_2j19 r16.2 r16.1) else pilelaw1_MarksHeard.j21 k x4j19 x7j19 x8j19 x9j19 x10j19 x11j19 x12j19 x14j19 x15j19 x16j19 x17j19 x18j19 x20j19 x21j19 x22j19 o13_0j19 o13_1j19 o13_2j19 x19j19 ([] : List Int))
end
def pilelaw1_MarksHeard.f (k : Nat) (l0 : List Int) : Option (Bool) := ((pilemake_Stream_Keyed.f k l0 0).bind fun r1 => ((pilemake_Stream_Pick.f k r1.2.1 r1.2.2 [1, 20, 60, 100, 0]).bind fun r2 => ((pilemake_Stream_Pick.f k r2.2.1 r2.2.2 [1, 5, 20, 70, 400, 0]).bind fun r3 => ((pileref1_MarksFault.f k r1.1).bind fun r4 => ((key_CheckMarks.f k r1.1).bind fun r5 => (if r5 = r4 then ((key_With.f k r1.1 r2.1).bind fun r6 => ((key_Uneven.f k r1.1 r2.1).bind fun r7 => ((key_Hear.f k r1.1).bind fun r8 => ((key_Clean.f k r1.1 r3.1).bind fun r9 => ((pileref1_SpanFault.f r2.1 1 2000).bind fun r10 => ((cmp_Or_api_Errno.f k [r4, r10]).bind fun r11 => ((pileref1_SpanFault.f r3.1 1 100000).bind fun r12 => ((cmp_Or_api_Errno.f k [r4, r12]).bind fun r13 => (if r11 = 0 then ((pileref1_WithUnit.f k r1.1 r2.1).bind fun r14 => ((pileref1_UnevenOf.f k r1.1 r2.1).bind fun r15 => pilelaw1_MarksHeard.j19 k r1.1 r3.1 r4 r6.1 r6.2.1 r6.2.2 r7.1 r7.2 r8.2.2.2.1 r8.2.2.2.2 r9.1 r9.2 r11 r13 r14.1 r14.2 r15 r8.1 r8.2.1 r8.2.2.1)) else pilelaw1_MarksHeard.j19 k r1.1 r3.1 r4 r6.1 r6.2.1 r6.2.2 r7.1 r7.2 r8.2.2.2.1 r8.2.2.2.2 r9.1 r9.2 r11 r13 (⟨#[]⟩ : ByteArray) 0 ([] : List Int) r8.1 r8.2.1 r8.2.2.1))))))))) else Option.some false))))))
theorem pilelaw1_MarksHeard.loops : ∀ k, (∀ (x7j19 : Int) (x8j19 : ByteArray) (x9j19 : Int) (x10j19 : Int) (x11j19 : List Int) (x12j19 : Int) (x14j19 : Bool) (x15j19 : Int) (x16j19 : List Int) (x17j19 : Int) (x18j19 : Int) (x20j19 : ByteArray) (x21j19 : Int) (x22j19 : List Int) (o13_0j19 : ByteArray) (o13_1j19 : Int) (o13_2j19 : Int) (x19j21 : Int) (x23j21 : List Int) (x25j23 : Bool) (o24_0j23 : ByteArray) (o24_1j23 : Int) (o24_2j23 : Int), RS (fam Tryd.f3 [19, 21, 23] [] [] (fun r : Bool => .bool r) (fun r => [])) (Func.reg Tryd.f3 23) ⟨ofT [(7, .int .i64 x7j19), (8, .str x8j19), (9, .int .i64 x9j19), (10, .int .i64 x10j19), (11, sq eI x11j19), (12, .int .i64 x12j19), (13, .ref 13 0 0 0 3), (14, .bool x14j19), (15, .int .i64 x15j19), (16, sq eI x16j19), (17, .int .i64 x17j19), (18, .int .i64 x18j19), (19, .int .i64 x19j21), (20, .str x20j19), (21, .int .i64 x21j19), (22, sq eI x22j19), (23, sq eI x23j21), (24, .ref 24 0 0 0 3), (25, .bool x25j23)], ofL [(13, .box [.str o13_0j19, .int .i64 o13_1j19, .int .i64 o13_2j19]), (24, .box [.str o24_0j23, .int .i64 o24_1j23, .int .i64 o24_2j23])]⟩ (pilelaw1_MarksHeard.j23 k x7j19 x8j19 x9j19 x10j19 x11j19 x12j19 x14j19 x15j19 x16j19 x17j19 x18j19 x20j19 x21j19 x22j19 o13_0j19 o13_1j19 o13_2j19 x19j21 x23j21 x25j23 o24_0j23 o24_1j23 o24_2j23)) ∧ (∀ (x4j19 : List Int) (x7j19 : Int) (x8j19 : ByteArray) (x9j19 : Int) (x10j19 : Int) (x11j19 : List Int) (x12j19 : Int) (x14j19 : Bool) (x15j19 : Int) (x16j19 : List Int) (x17j19 : Int) (x18j19 : Int) (x20j19 : ByteArray) (x21j19 : Int) (x22j19 : List Int) (o13_0j19 : ByteArray) (o13_1j19 : Int) (o13_2j19 : Int) (x19j21 : Int) (x23j21 : List Int), RS (fam Tryd.f3 [19, 21, 23] [] [] (fun r : Bool => .bool r) (fun r => [])) (Func.reg Tryd.f3 21) ⟨ofT [(4, sq eI x4j19), (7, .int .i64 x7j19), (8, .str x8j19), (9, .int .i64 x9j19), (10, .int .i64 x10j19), (11, sq eI x11j19), (12, .int .i64 x12j19), (13, .ref 13 0 0 0 3), (14, .bool x14j19), (15, .int .i64 x15j19), (16, sq eI x16j19), (17, .int .i64 x17j19), (18, .int .i64 x18j19), (19, .int .i64 x19j21), (20, .str x20j19), (21, .int .i64 x21j19), (22, sq eI x22j19), (23, sq eI x23j21), (24, .ref 24 0 0 0 3), (25, .bool false)], ofL [(13, .box [.str o13_0j19, .int .i64 o13_1j19, .int .i64 o13_2j19]), (24, .box [.str (⟨#[]⟩ : ByteArray), .int .i64 0, .int .i64 0])]⟩ (pilelaw1_MarksHeard.j21 k x4j19 x7j19 x8j19 x9j19 x10j19 x11j19 x12j19 x14j19 x15j19 x16j19 x17j19 x18j19 x20j19 x21j19 x22j19 o13_0j19 o13_1j19 o13_2j19 x19j21 x23j21)) ∧ (∀ (x4j19 : List Int) (x6j19 : Int) (x7j19 : Int) (x8j19 : ByteArray) (x9j19 : Int) (x10j19 : Int) (x11j19 : List Int) (x12j19 : Int) (x14j19 : Bool) (x15j19 : Int) (x16j19 : List Int) (x17j19 : Int) (x18j19 : Int) (x19j19 : Int) (x20j19 : ByteArray) (x21j19 : Int) (x22j19 : List Int) (o13_0j19 : ByteArray) (o13_1j19 : Int) (o13_2j19 : Int), RS (fam Tryd.f3 [19, 21, 23] [] [] (fun r : Bool => .bool r) (fun r => [])) (Func.reg Tryd.f3 19) ⟨ofT [(4, sq eI x4j19), (6, .int .i64 x6j19), (7, .int .i64 x7j19), (8, .str x8j19), (9, .int .i64 x9j19), (10, .int .i64 x10j19), (11, sq eI x11j19), (12, .int .i64 x12j19), (13, .ref 13 0 0 0 3), (14, .bool x14j19), (15, .int .i64 x15j19), (16, sq eI x16j19), (17, .int .i64 x17j19), (18, .int .i64 x18j19), (19, .int .i64 x19j19), (20, .str x20j19), (21, .int .i64 x21j19), (22, sq eI x22j19), (23, .v (.slice Option.none 0 0)), (24, .ref 24 0 0 0 3), (25, .bool false)], ofL [(13, .box [.str o13_0j19, .int .i64 o13_1j19, .int .i64 o13_2j19]), (24, .box [.str (⟨#[]⟩ : ByteArray), .int .i64 0, .int .i64 0])]⟩ (pilelaw1_MarksHeard.j19 k x4j19 x6j19 x7j19 x8j19 x9j19 x10j19 x11j19 x12j19 x14j19 x15j19 x16j19 x17j19 x18j19 x19j19 x20j19 x21j19 x22j19 o13_0j19 o13_1j19 o13_2j19))
  | 0 => ⟨by intro _ _ _ _ _ _ _ _ _ _ _ _ _ _ _ _ _ _ _ _ _ _ _; simp only [pilelaw1_MarksHeard.j23]; exact RS.none, by intro _ _ _ _ _ _ _ _ _ _ _ _ _ _ _ _ _ _ _ _; simp only [pilelaw1_MarksHeard.j21]; exact RS.none, by intro _ _ _ _ _ _ _ _ _ _ _ _ _ _ _ _ _ _ _ _; simp only [pilelaw1_MarksHeard.j19]; exact RS.none⟩
  | k + 1 => by
    have ih := pilelaw1_MarksHeard.loops k
    refine ⟨?_, ?_, ?_⟩
    · intro x7j19 x8j19 x9j19 x10j19 x11j19 x12j19 x14j19 x15j19 x16j19 x17j19 x18j19 x20j19 x21j19 x22j19 o13_0j19 o13_1j19 o13_2j19 x19j21 x23j21 x25j23 o24_0j23 o24_1j23 o24_2j23
      simp only [pilelaw1_MarksHeard.j23]
      refine RS.region ?_
      refine RS.go ?_
      refine RT.br rfl (fun c30 => ?_) (fun c30 => ?_)
      · refine RT.brT rfl ?_
        refine RT.brT rfl ?_
        refine RT.brT rfl ?_
        refine RT.br rfl (fun c29 => ?_) (fun c29 => ?_)
        · refine RT.brT rfl ?_
          refine RT.brT rfl ?_
          refine RT.brT rfl ?_
          refine RT.br rfl (fun c28 => ?_) (fun c28 => ?_)
          · refine RT.brT rfl ?_
            refine RT.brT rfl ?_
            refine RT.brT rfl ?_
            refine RT.br rfl (fun c27 => ?_) (fun c27 => ?_)
            · refine RT.brT rfl ?_
              refine RT.brT rfl ?_
              refine RT.call0 rfl (fun _ h => slices_Equal_int_int.ok k x11j19 x22j19 _ h) (LeL.eq rfl) (fun _ => rfl) (fun r18 => ?_)
              refine RS.go ?_
              refine RT.brT rfl ?_
              refine RT.brB rfl (fun c26 => ?_) (fun c26 => ?_)
              · refine RT.brT rfl ?_
                refine RT.brT rfl ?_
                refine RT.brT rfl ?_
                refine RT.br rfl (fun c25 => ?_) (fun c25 => ?_)
                · refine RT.brT rfl ?_
                  refine RT.brT rfl ?_
                  refine RT.brT rfl ?_
                  refine RT.brB rfl (fun c24 => ?_) (fun c24 => ?_)
                  · refine RT.brT rfl ?_
                    refine RT.brT rfl ?_
                    refine RT.brT rfl ?_
                    refine RT.brB rfl (fun c23 => ?_) (fun c23 => ?_)
                    · refine RT.brT rfl ?_
                      refine RT.brT rfl ?_
                      refine RT.brT rfl ?_
                      refine RT.br rfl (fun c22 => ?_) (fun c22 => ?_)
                      · refine RT.brT rfl ?_
                        refine RT.brT rfl ?_
                        refine RT.call0 rfl (fun _ h => slices_Equal_int_int.ok k x16j19 x23j21 _ h) (LeL.eq rfl) (fun _ => rfl) (fun r19 => ?_)
                        refine RS.go ?_
                        refine RT.brT rfl ?_
                        refine RT.brB rfl (fun c21 => ?_) (fun c21 => ?_)
                        · refine RT.call0 rfl (fun _ h => pilelaw1_keyed.ok k  _ h) (LeL.eq rfl) (fun _ => rfl) (fun r20 => ?_)
                          refine RS.go ?_
                          refine RT.brT rfl ?_
                          exact RT.done rfl rfl (Le.refl _) trivial rfl (dom0 rfl)
                        · refine RT.brF rfl ?_
                          exact RT.done rfl rfl (Le.refl _) trivial rfl (dom0 rfl)
                      · refine RT.brF rfl ?_
                        refine RT.brF rfl ?_
                        refine RT.brF rfl ?_
                        refine RT.brF rfl ?_
                        refine RT.brF rfl ?_
                        exact RT.done rfl rfl (Le.refl _) trivial rfl (dom0 rfl)
                    · refine RT.brF rfl ?_
                      refine RT.brF rfl ?_
                      refine RT.brF rfl ?_
                      refine RT.brF rfl ?_
                      refine RT.brF rfl ?_
                      refine RT.brF rfl ?_
                      refine RT.brF rfl ?_
                      refine RT.brF rfl ?_
                      refine RT.brF rfl ?_
                      exact RT.done rfl rfl (Le.refl _) trivial rfl (dom0 rfl)
                  · refine RT.brF rfl ?_
                    refine RT.brF rfl ?_
                    refine RT.brF rfl ?_
                    refine RT.brF rfl ?_
                    refine RT.brF rfl ?_
                    refine RT.brF rfl ?_
                    refine RT.brF rfl ?_
                    refine RT.brF rfl ?_
                    refine RT.brF rfl ?_
                    refine RT.brF rfl ?_
                    refine RT.brF rfl ?_
                    refine RT.brF rfl ?_
                    refine RT.brF rfl ?_
                    exact RT.done rfl rfl (Le.refl _) trivial rfl (dom0 rfl)
                · refine RT.brF rfl ?_
                  refine RT.brF rfl ?_
                  refine RT.brF rfl ?_
                  refine RT.brF rfl ?_
                  refine RT.brF rfl ?_
                  refine RT.brF rfl ?_
                  refine RT.brF rfl ?_
                  refine RT.brF rfl ?_
                  refine RT.brF rfl ?_
                  refine RT.brF rfl ?_
                  refine RT.brF rfl ?_
                  refine RT.brF rfl ?_
                  refine RT.brF rfl ?_
                  refine RT.brF rfl ?_
                  refine RT.brF rfl ?_
                  refine RT.brF rfl ?_
                  refine RT.brF rfl ?_
                  exact RT.done rfl rfl (Le.refl _) trivial rfl (dom0 rfl)
              · refine RT.brF rfl ?_
                refine RT.brF rfl ?_
                refine RT.brF rfl ?_
                refine RT.brF rfl ?_
                refine RT.brF rfl ?_
                refine RT.brF rfl ?_
                refine RT.brF rfl ?_
                refine RT.brF rfl ?_
                refine RT.brF rfl ?_
                refine RT.brF rfl ?_
                refine RT.brF rfl ?_
                refine RT.brF rfl ?_
                refine RT.brF rfl ?_
                refine RT.brF rfl ?_
                refine RT.brF rfl ?_
                refine RT.brF rfl ?_
                refine RT.brF rfl ?_
                refine RT.brF rfl ?_
                refine RT.brF rfl ?_
                refine RT.brF rfl ?_
                refine RT.brF rfl ?_
                exact RT.done rfl rfl (Le.refl _) trivial rfl (dom0 rfl)
            · refine RT.brF rfl ?_
              refine RT.brF rfl ?_
              refine RT.brF rfl ?_
              refine RT.brF rfl ?_
              refine RT.brF rfl ?_
              refine RT.brF rfl ?_
              refine RT.brF rfl ?_
              refine RT.brF rfl ?_
              refine RT.brF rfl ?_
              refine RT.brF rfl ?_
              refine RT.brF rfl ?_
              refine RT.brF rfl ?_
              refine RT.brF rfl ?_
              refine RT.brF rfl ?_
              refine RT.brF rfl ?_
              refine RT.brF rfl ?_
              refine RT.brF rfl ?_
              refine RT.brF rfl ?_
              refine RT.brF rfl ?_
              refine RT.brF rfl ?_
              refine RT.brF rfl ?_
              refine RT.brF rfl ?_
              refine RT.brF rfl ?_
              refine RT.brF rfl ?_
              refine RT.brF rfl ?_
              exact RT.done rfl rfl (Le.refl _) trivial rfl (dom0 rfl)
          · refine RT.brF rfl ?_
            refine RT.brF rfl ?_
            refine RT.brF rfl ?_
            refine RT.brF rfl ?_
            refine RT.brF rfl ?_
            refine RT.brF rfl ?_
            refine RT.brF rfl ?_
            refine RT.brF rfl ?_
            refine RT.brF rfl ?_
            refine RT.brF rfl ?_
            refine RT.brF rfl ?_
            refine RT.brF rfl ?_
            refine RT.brF rfl ?_
            refine RT.brF rfl ?_
            refine RT.brF rfl ?_
            refine RT.brF rfl ?_
            refine RT.brF rfl ?_
            refine RT.brF rfl ?_
            refine RT.brF rfl ?_
            refine RT.brF rfl ?_
            refine RT.brF rfl ?_
            refine RT.brF rfl ?_
            refine RT.brF rfl ?_
            refine RT.brF rfl ?_
            refine RT.brF rfl ?_
            refine RT.brF rfl ?_
            refine RT.brF rfl ?_
            refine RT.brF rfl ?_
            refine RT.brF rfl ?_
            exact RT.done rfl rfl (Le.refl _) trivial rfl (dom0 rfl)
        · refine RT.brF rfl ?_
          refine RT.brF rfl ?_
          refine RT.brF rfl ?_
          refine RT.brF rfl ?_
          refine RT.brF rfl ?_
          refine RT.brF rfl ?_
          refine RT.brF rfl ?_
          refine RT.brF rfl ?_
          refine RT.brF rfl ?_
          refine RT.brF rfl ?_
          refine RT.brF rfl ?_
          refine RT.brF rfl ?_
          refine RT.brF rfl ?_
          refine RT.brF rfl ?_
          refine RT.brF rfl ?_
          refine RT.brF rfl ?_
          refine RT.brF rfl ?_
          refine RT.brF rfl ?_
          refine RT.brF rfl ?_
          refine RT.brF rfl ?_
          refine RT.brF rfl ?_
          refine RT.brF rfl ?_
          refine RT.brF rfl ?_
          refine RT.brF rfl ?_
          refine RT.brF rfl ?_
          refine RT.brF rfl ?_
          refine RT.brF rfl ?_
          refine RT.brF rfl ?_
          refine RT.brF rfl ?_
          refine RT.brF rfl ?_
          refine RT.brF rfl ?_
          refine RT.brF rfl ?_
          refine RT.brF rfl ?_
          exact RT.done rfl rfl (Le.refl _) trivial rfl (dom0 rfl)
      · refine RT.brF rfl ?_
        refine RT.brF rfl ?_
        refine RT.brF rfl ?_
        refine RT.brF rfl ?_
        refine RT.brF rfl ?_
        refine RT.brF rfl ?_
        refine RT.brF rfl ?_
        refine RT.brF rfl ?_
        refine RT.brF rfl ?_
        refine RT.brF rfl ?_
        refine RT.brF rfl ?_
        refine RT.brF rfl ?_
        refine RT.brF rfl ?_
        refine RT.brF rfl ?_
        refine RT.brF rfl ?_
        refine RT.brF rfl ?_
        refine RT.brF rfl ?_
        refine RT.brF rfl ?_
        refine RT.brF rfl ?_
        refine RT.brF rfl ?_
        refine RT.brF rfl ?_
        refine RT.brF rfl ?_
        refine RT.brF rfl ?_
        refine RT.brF rfl ?_
        refine RT.brF rfl ?_
        refine RT.brF rfl ?_
        refine RT.brF rfl ?_
        refine RT.brF rfl ?_
        refine RT.brF rfl ?_
        refine RT.brF rfl ?_
        refine RT.brF rfl ?_
        refine RT.brF rfl ?_
        refine RT.brF rfl ?_
        refine RT.brF rfl ?_
        refine RT.brF rfl ?_
        refine RT.brF rfl ?_
        refine RT.brF rfl ?_
        exact RT.done rfl rfl (Le.refl _) trivial rfl (dom0 rfl)
    · intro x4j19 x7j19 x8j19 x9j19 x10j19 x11j19 x12j19 x14j19 x15j19 x16j19 x17j19 x18j19 x20j19 x21j19 x22j19 o13_0j19 o13_1j19 o13_2j19 x19j21 x23j21
      simp only [pilelaw1_MarksHeard.j21]
      refine RS.region ?_
      refine RS.go ?_
      refine RT.br rfl (fun c31 => ?_) (fun c31 => ?_)
      · refine RT.call0 rfl (fun _ h => pileref1_HeardOf.ok k x4j19 _ h) (LeL.eq rfl) (fun _ => rfl) (fun r17 => ?_)
        refine RS.go ?_
        refine RT.goto rfl ?_
        refine RS.weak [(7, .int .i64 x7j19), (8, .str x8j19), (9, .int .i64 x9j19), (10, .int .i64 x10j19), (11, sq eI x11j19), (12, .int .i64 x12j19), (13, .ref 13 0 0 0 3), (14, .bool x14j19), (15, .int .i64 x15j19), (16, sq eI x16j19), (17, .int .i64 x17j19), (18, .int .i64 x18j19), (19, .int .i64 x19j21), (20, .str x20j19), (21, .int .i64 x21j19), (22, sq eI x22j19), (23, sq eI x23j21), (24, .ref 24 0 0 0 3), (25, .bool r17.2.2.2)] [(13, .box [.str o13_0j19, .int .i64 o13_1j19, .int .i64 o13_2j19]), (24, .box [.str r17.1, .int .i64 r17.2.1, .int .i64 r17.2.2.1])] ⟨Le.eq (by first | rfl | simp), Le.eq (by first | rfl | simp), Le.eq (by first | rfl | simp), Le.eq (by first | rfl | simp), Le.eq (by first | rfl | simp), Le.eq (by first | rfl | simp), Le.eq (by first | rfl | simp), Le.eq (by first | rfl | simp), Le.eq (by first | rfl | simp), Le.eq (by first | rfl | simp), Le.eq (by first | rfl | simp), Le.eq (by first | rfl | simp), Le.eq (by first | rfl | simp), Le.eq (by first | rfl | simp), Le.eq (by first | rfl | simp), Le.eq (by first | rfl | simp), Le.eq (by first | rfl | simp), Le.eq (by first | rfl | simp), Le.eq (by first | rfl | simp), trivial⟩ ⟨⟨_, rfl, LeO.refl _⟩, ⟨_, rfl, LeO.refl _⟩, trivial⟩ rfl (dom0 rfl) ?_
        exact ih.1 x7j19 x8j19 x9j19 x10j19 x11j19 x12j19 x14j19 x15j19 x16j19 x17j19 x18j19 x20j19 x21j19 x22j19 o13_0j19 o13_1j19 o13_2j19 x19j21 x23j21 r17.2.2.2 r17.1 r17.2.1 r17.2.2.1 
      · refine RT.goto rfl ?_
        refine RS.weak [(7, .int .i64 x7j19), (8, .str x8j19), (9, .int .i64 x9j19), (10, .int .i64 x10j19), (11, sq eI x11j19), (12, .int .i64 x12j19), (13, .ref 13 0 0 0 3), (14, .bool x14j19), (15, .int .i64 x15j19), (16, sq eI x16j19), (17, .int .i64 x17j19), (18, .int .i64 x18j19), (19, .int .i64 x19j21), (20, .str x20j19), (21, .int .i64 x21j19), (22, sq eI x22j19), (23, sq eI x23j21), (24, .ref 24 0 0 0 3), (25, .bool false)] [(13, .box [.str o13_0j19, .int .i64 o13_1j19, .int .i64 o13_2j19]), (24, .box [.str (⟨#[]⟩ : ByteArray), .int .i64 0, .int .i64 0])] ⟨Le.eq (by first | rfl | simp), Le.eq (by first | rfl | simp), Le.eq (by first | rfl | simp), Le.eq (by first | rfl | simp), Le.eq (by first | rfl | simp), Le.eq (by first | rfl | simp), Le.eq (by first | rfl | simp), Le.eq (by first | rfl | simp), Le.eq (by first | rfl | simp), Le.eq (by first | rfl | simp), Le.eq (by first | rfl | simp), Le.eq (by first | rfl | simp), Le.eq (by first | rfl | simp), Le.eq (by first | rfl | simp), Le.eq (by first | rfl | simp), Le.eq (by first | rfl | simp), Le.eq (by first | rfl | simp), Le.eq (by first | rfl | simp), Le.eq (by first | rfl | simp), trivial⟩ ⟨⟨_, rfl, LeO.refl _⟩, ⟨_, rfl, LeO.refl _⟩, trivial⟩ rfl (dom0 rfl) ?_
        exact ih.1 x7j19 x8j19 x9j19 x10j19 x11j19 x12j19 x14j19 x15j19 x16j19 x17j19 x18j19 x20j19 x21j19 x22j19 o13_0j19 o13_1j19 o13_2j19 x19j21 x23j21 false (⟨#[]⟩ : ByteArray) 0 0 
    · intro x4j19 x6j19 x7j19 x8j19 x9j19 x10j19 x11j19 x12j19 x14j19 x15j19 x16j19 x17j19 x18j19 x19j19 x20j19 x21j19 x22j19 o13_0j19 o13_1j19 o13_2j19
      simp only [pilelaw1_MarksHeard.j19]
      refine RS.region ?_
      refine RS.go ?_
      refine RT.br rfl (fun c32 => ?_) (fun c32 => ?_)
      · refine RT.call0 rfl (fun _ h => pileref1_CleanedOf.ok k x4j19 x6j19 _ h) (LeL.eq rfl) (fun _ => rfl) (fun r16 => ?_)
        refine RS.go ?_
        refine RT.goto rfl ?_
        refine RS.weak [(4, sq eI x4j19), (7, .int .i64 x7j19), (8, .str x8j19), (9, .int .i64 x9j19), (10, .int .i64 x10j19), (11, sq eI x11j19), (12, .int .i64 x12j19), (13, .ref 13 0 0 0 3), (14, .bool x14j19), (15, .int .i64 x15j19), (16, sq eI x16j19), (17, .int .i64 x17j19), (18, .int .i64 x18j19), (19, .int .i64 r16.2), (20, .str x20j19), (21, .int .i64 x21j19), (22, sq eI x22j19), (23, sq eI r16.1), (24, .ref 24 0 0 0 3), (25, .bool false)] [(13, .box [.str o13_0j19, .int .i64 o13_1j19, .int .i64 o13_2j19]), (24, .box [.str (⟨#[]⟩ : ByteArray), .int .i64 0, .int .i64 0])] ⟨Le.eq (by first | rfl | simp), Le.eq (by first | rfl | simp), Le.eq (by first | rfl | simp), Le.eq (by first | rfl | simp), Le.eq (by first | rfl | simp), Le.eq (by first | rfl | simp), Le.eq (by first | rfl | simp), Le.eq (by first | rfl | simp), Le.eq (by first | rfl | simp), Le.eq (by first | rfl | simp), Le.eq (by first | rfl | simp), Le.eq (by first | rfl | simp), Le.eq (by first | rfl | simp), Le.eq (by first | rfl | simp), Le.eq (by first | rfl | simp), Le.eq (by first | rfl | simp), Le.eq (by first | rfl | simp), Le.eq (by first | rfl | simp), Le.eq (by first | rfl | simp), Le.eq (by first | rfl | simp), trivial⟩ ⟨⟨_, rfl, LeO.refl _⟩, ⟨_, rfl, LeO.refl _⟩, trivial⟩ rfl (dom0 rfl) ?_
        exact ih.2.1 x4j19 x7j19 x8j19 x9j19 x10j19 x11j19 x12j19 x14j19 x15j19 x16j19 x17j19 x18j19 x20j19 x21j19 x22j19 o13_0j19 o13_1j19 o13_2j19 r16.2 r16.1 
      · refine RT.goto rfl ?_
        refine RS.slot 23 (sq eI ([] : List Int)) (Le.nil _ _) ?_
        refine RS.weak [(4, sq eI x4j19), (7, .int .i64 x7j19), (8, .str x8j19), (9, .int .i64 x9j19), (10, .int .i64 x10j19), (11, sq eI x11j19), (12, .int .i64 x12j19), (13, .ref 13 0 0 0 3), (14, .bool x14j19), (15, .int .i64 x15j19), (16, sq eI x16j19), (17, .int .i64 x17j19), (18, .int .i64 x18j19), (19, .int .i64 x19j19), (20, .str x20j19), (21, .int .i64 x21j19), (22, sq eI x22j19), (23, sq eI ([] : List Int)), (24, .ref 24 0 0 0 3), (25, .bool false)] [(13, .box [.str o13_0j19, .int .i64 o13_1j19, .int .i64 o13_2j19]), (24, .box [.str (⟨#[]⟩ : ByteArray), .int .i64 0, .int .i64 0])] ⟨Le.eq (by first | rfl | simp), Le.eq (by first | rfl | simp), Le.eq (by first | rfl | simp), Le.eq (by first | rfl | simp), Le.eq (by first | rfl | simp), Le.eq (by first | rfl | simp), Le.eq (by first | rfl | simp), Le.eq (by first | rfl | simp), Le.eq (by first | rfl | simp), Le.eq (by first | rfl | simp), Le.eq (by first | rfl | simp), Le.eq (by first | rfl | simp), Le.eq (by first | rfl | simp), Le.eq (by first | rfl | simp), Le.eq (by first | rfl | simp), Le.eq (by first | rfl | simp), Le.eq (by first | rfl | simp), Le.eq (by first | rfl | simp), Le.eq (by first | rfl | simp), Le.eq (by first | rfl | simp), trivial⟩ ⟨⟨_, rfl, LeO.refl _⟩, ⟨_, rfl, LeO.refl _⟩, trivial⟩ rfl (dom0 rfl) ?_
        exact ih.2.1 x4j19 x7j19 x8j19 x9j19 x10j19 x11j19 x12j19 x14j19 x15j19 x16j19 x17j19 x18j19 x20j19 x21j19 x22j19 o13_0j19 o13_1j19 o13_2j19 x19j19 ([] : List Int) 
theorem pilelaw1_MarksHeard.ok (k : Nat) (l0 : List Int) (r : Bool) (h : pilelaw1_MarksHeard.f k l0 = some r) : Ct Tryd.prog B 3 [sq eI l0] (ofL []) (.bool r) (ofL []) := by
  refine Ct.of (Y := (fam Tryd.f3 [19, 21, 23] [] [] (fun r : Bool => .bool r) (fun r => []))) Tryd.func3 rfl Tryd.call3 rfl rfl ?_ r h
  unfold pilelaw1_MarksHeard.f
  refine RS.go ?_
  refine RT.call rfl (fun _ h => pilemake_Stream_Keyed.ok k l0 0 _ h) (fun i => bif Nat.beq i 100000 then 28 else i) (LeL.eq rfl) ⟨⟨_, rfl, LeO.refl _⟩, trivial⟩ (fun _ => rfl) (fun r1 => ?_)
  refine RS.go ?_
  refine RT.goto rfl ?_
  refine RS.slot 32 (sq eI [1, 20, 60, 100, 0]) (Le.lit (E := eI) (l := [1, 20, 60, 100, 0]) (cells_of rfl)) ?_
  refine RS.go ?_
  refine RT.call rfl (fun _ h => pilemake_Stream_Pick.ok k r1.2.1 r1.2.2 [1, 20, 60, 100, 0] _ h) (fun i => bif Nat.beq i 100000 then 28 else i) (LeL.eq rfl) ⟨⟨_, rfl, LeO.refl _⟩, trivial⟩ (fun _ => rfl) (fun r2 => ?_)
  refine RS.go ?_
  refine RT.goto rfl ?_
  refine RS.slot 35 (sq eI [1, 5, 20, 70, 400, 0]) (Le.lit (E := eI) (l := [1, 5, 20, 70, 400, 0]) (cells_of rfl)) ?_
  refine RS.go ?_
  refine RT.call rfl (fun _ h => pilemake_Stream_Pick.ok k r2.2.1 r2.2.2 [1, 5, 20, 70, 400, 0] _ h) (fun i => bif Nat.beq i 100000 then 28 else i) (LeL.eq rfl) ⟨⟨_, rfl, LeO.refl _⟩, trivial⟩ (fun _ => rfl) (fun r3 => ?_)
  refine RS.go ?_
  refine RT.call0 rfl (fun _ h => pileref1_MarksFault.ok k r1.1 _ h) (LeL.eq rfl) (fun _ => rfl) (fun r4 => ?_)
  refine RS.go ?_
  refine RT.call0 rfl (fun _ h => key_CheckMarks.ok k r1.1 _ h) (LeL.eq rfl) (fun _ => rfl) (fun r5 => ?_)
  refine RS.go ?_
  refine RT.brN rfl (fun c34 => ?_) (fun c34 => ?_)
  · refine RT.call0 rfl (fun _ h => key_With.ok k r1.1 r2.1 _ h) (LeL.eq rfl) (fun _ => rfl) (fun r6 => ?_)
    refine RS.go ?_
    refine RT.call0 rfl (fun _ h => key_Uneven.ok k r1.1 r2.1 _ h) (LeL.eq rfl) (fun _ => rfl) (fun r7 => ?_)
    refine RS.go ?_
    refine RT.call0 rfl (fun _ h => key_Hear.ok k r1.1 _ h) (LeL.eq rfl) (fun _ => rfl) (fun r8 => ?_)
    refine RS.go ?_
    refine RT.call0 rfl (fun _ h => key_Clean.ok k r1.1 r3.1 _ h) (LeL.eq rfl) (fun _ => rfl) (fun r9 => ?_)
    refine RS.go ?_
    refine RT.call0 rfl (fun _ h => pileref1_SpanFault.ok r2.1 1 2000 _ h) (LeL.eq rfl) (fun _ => rfl) (fun r10 => ?_)
    refine RS.go ?_
    refine RT.goto rfl ?_
    refine RS.slot 71 (sq eI [r4, r10]) (Le.lit (E := eI) (l := [r4, r10]) (cells_of rfl)) ?_
    refine RS.go ?_
    refine RT.call0 rfl (fun _ h => cmp_Or_api_Errno.ok k [r4, r10] _ h) (LeL.eq rfl) (fun _ => rfl) (fun r11 => ?_)
    refine RS.go ?_
    refine RT.call0 rfl (fun _ h => pileref1_SpanFault.ok r3.1 1 100000 _ h) (LeL.eq rfl) (fun _ => rfl) (fun r12 => ?_)
    refine RS.go ?_
    refine RT.goto rfl ?_
    refine RS.slot 76 (sq eI [r4, r12]) (Le.lit (E := eI) (l := [r4, r12]) (cells_of rfl)) ?_
    refine RS.go ?_
    refine RT.call0 rfl (fun _ h => cmp_Or_api_Errno.ok k [r4, r12] _ h) (LeL.eq rfl) (fun _ => rfl) (fun r13 => ?_)
    refine RS.go ?_
    refine RT.br rfl (fun c33 => ?_) (fun c33 => ?_)
    · refine RT.call0 rfl (fun _ h => pileref1_WithUnit.ok k r1.1 r2.1 _ h) (LeL.eq rfl) (fun _ => rfl) (fun r14 => ?_)
      refine RS.go ?_
      refine RT.call0 rfl (fun _ h => pileref1_UnevenOf.ok k r1.1 r2.1 _ h) (LeL.eq rfl) (fun _ => rfl) (fun r15 => ?_)
      refine RS.go ?_
      refine RT.goto rfl ?_
      refine RS.weak [(4, sq eI r1.1), (6, .int .i64 r3.1), (7, .int .i64 r4), (8, .str r6.1), (9, .int .i64 r6.2.1), (10, .int .i64 r6.2.2), (11, sq eI r7.1), (12, .int .i64 r7.2), (13, .ref 13 0 0 0 3), (14, .bool r8.2.2.2.1), (15, .int .i64 r8.2.2.2.2), (16, sq eI r9.1), (17, .int .i64 r9.2), (18, .int .i64 r11), (19, .int .i64 r13), (20, .str r14.1), (21, .int .i64 r14.2), (22, sq eI r15), (23, .v (.slice Option.none 0 0)), (24, .ref 24 0 0 0 3), (25, .bool false)] [(13, .box [.str r8.1, .int .i64 r8.2.1, .int .i64 r8.2.2.1]), (24, .box [.str (⟨#[]⟩ : ByteArray), .int .i64 0, .int .i64 0])] ⟨Le.eq (by first | rfl | simp), Le.eq (by first | rfl | simp), Le.eq (by first | rfl | simp), Le.eq (by first | rfl | simp), Le.eq (by first | rfl | simp), Le.eq (by first | rfl | simp), Le.eq (by first | rfl | simp), Le.eq (by first | rfl | simp), Le.eq (by first | rfl | simp), Le.eq (by first | rfl | simp), Le.eq (by first | rfl | simp), Le.eq (by first | rfl | simp), Le.eq (by first | rfl | simp), Le.eq (by first | rfl | simp), Le.eq (by first | rfl | simp), Le.eq (by first | rfl | simp), Le.eq (by first | rfl | simp), Le.eq (by first | rfl | simp), Le.eq (by first | rfl | simp), Le.eq (by first | rfl | simp), Le.eq (by first | rfl | simp), trivial⟩ ⟨⟨_, rfl, LeO.refl _⟩, ⟨_, rfl, LeO.refl _⟩, trivial⟩ rfl (dom0 rfl) ?_
      exact (pilelaw1_MarksHeard.loops k).2.2 r1.1 r3.1 r4 r6.1 r6.2.1 r6.2.2 r7.1 r7.2 r8.2.2.2.1 r8.2.2.2.2 r9.1 r9.2 r11 r13 r14.1 r14.2 r15 r8.1 r8.2.1 r8.2.2.1 
    · refine RT.goto rfl ?_
      refine RS.slot 22 (sq eI ([] : List Int)) (Le.nil _ _) ?_
      refine RS.weak [(4, sq eI r1.1), (6, .int .i64 r3.1), (7, .int .i64 r4), (8, .str r6.1), (9, .int .i64 r6.2.1), (10, .int .i64 r6.2.2), (11, sq eI r7.1), (12, .int .i64 r7.2), (13, .ref 13 0 0 0 3), (14, .bool r8.2.2.2.1), (15, .int .i64 r8.2.2.2.2), (16, sq eI r9.1), (17, .int .i64 r9.2), (18, .int .i64 r11), (19, .int .i64 r13), (20, .str (⟨#[]⟩ : ByteArray)), (21, .int .i64 0), (22, sq eI ([] : List Int)), (23, .v (.slice Option.none 0 0)), (24, .ref 24 0 0 0 3), (25, .bool false)] [(13, .box [.str r8.1, .int .i64 r8.2.1, .int .i64 r8.2.2.1]), (24, .box [.str (⟨#[]⟩ : ByteArray), .int .i64 0, .int .i64 0])] ⟨Le.eq (by first | rfl | simp), Le.eq (by first | rfl | simp), Le.eq (by first | rfl | simp), Le.eq (by first | rfl | simp), Le.eq (by first | rfl | simp), Le.eq (by first | rfl | simp), Le.eq (by first | rfl | simp), Le.eq (by first | rfl | simp), Le.eq (by first | rfl | simp), Le.eq (by first | rfl | simp), Le.eq (by first | rfl | simp), Le.eq (by first | rfl | simp), Le.eq (by first | rfl | simp), Le.eq (by first | rfl | simp), Le.eq (by first | rfl | simp), Le.eq (by first | rfl | simp), Le.eq (by first | rfl | simp), Le.eq (by first | rfl | simp), Le.eq (by first | rfl | simp), Le.eq (by first | rfl | simp), Le.eq (by first | rfl | simp), trivial⟩ ⟨⟨_, rfl, LeO.refl _⟩, ⟨_, rfl, LeO.refl _⟩, trivial⟩ rfl (dom0 rfl) ?_
      exact (pilelaw1_MarksHeard.loops k).2.2 r1.1 r3.1 r4 r6.1 r6.2.1 r6.2.2 r7.1 r7.2 r8.2.2.2.1 r8.2.2.2.2 r9.1 r9.2 r11 r13 (⟨#[]⟩ : ByteArray) 0 ([] : List Int) r8.1 r8.2.1 r8.2.2.1 
  · exact RT.done rfl rfl (Le.refl _) trivial rfl (dom0 rfl)
end Go.EV
