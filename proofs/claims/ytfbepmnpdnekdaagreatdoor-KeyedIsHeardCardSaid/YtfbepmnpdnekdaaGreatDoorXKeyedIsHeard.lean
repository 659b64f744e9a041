/- Printed by a program of this session: a Lean function for each function that the law reaches, and that the code comes to it. -/
import Derived.Test.YtfbepmnpdnekdaaGreatDoorXKeyedIsHearda
set_option linter.unusedVariables false
set_option linter.unusedSimpArgs false
namespace Go.EV
open Go Go.Proofs Go.RowKit
set_option maxHeartbeats 4000000
set_option maxRecDepth 100000
set_option linter.unusedVariables false
/-! ### key_Hear: function 19 -/
mutual
def key_Hear.j7 : Nat → List Int → Int → Int → Int → Option (ByteArray × Int × Int × Bool × Int)
  | 0, _, _, _, _ => Option.none
  | k + 1, l0, x8, x6j7, x7j7 => key_Hear.l0 k l0 x6j7 x7j7 (wrap64 (x8 + 1))
def key_Hear.l0 : Nat → List Int → Int → Int → Int → Option (ByteArray × Int × Int × Bool × Int)
  | 0, _, _, _, _ => Option.none
  | k + 1, l0, x6, x7, x8 => (if x8 ≤ 2000 then ((key_offOf.f k l0 x8).bind fun r2 => (if x6 = 0 then key_Hear.j7 k l0 x8 x8 r2 else (if r2 ≤ x7 then key_Hear.j7 k l0 x8 x8 r2 else key_Hear.j7 k l0 x8 x6 x7))) else ((key_read.f k l0 x6).bind fun r5 => (if (r5.size : Int) > 500 then Option.some ((⟨#[]⟩ : ByteArray), 0, 0, false, 0) else Option.some (r5, x6, x7, true, 0))))
end
def key_Hear.f (k : Nat) (l0 : List Int) : Option (ByteArray × Int × Int × Bool × Int) := ((key_CheckMarks.f k l0).bind fun r1 => (if r1 = 0 then key_Hear.l0 k l0 0 0 1 else Option.some ((⟨#[]⟩ : ByteArray), 0, 0, false, r1)))
theorem key_Hear.loops : ∀ k, (∀ (l0 : List Int) (x8 : Int) (x6j7 : Int) (x7j7 : Int), RS (fam Tryz.f19 [7] [] [] (fun r : ByteArray × Int × Int × Bool × Int => .tup [.agg [.str r.1, .int .i64 r.2.1, .int .i64 r.2.2.1], .bool r.2.2.2.1, .int .i64 r.2.2.2.2]) (fun r => [])) (Func.reg Tryz.f19 7) ⟨ofT [(0, sq eI l0), (2, .ref 2 0 0 0 3), (6, .int .i64 x6j7), (7, .int .i64 x7j7), (8, .int .i64 x8)], ofL [(2, .box [.str (⟨#[]⟩ : ByteArray), .int .i64 0, .int .i64 0])]⟩ (key_Hear.j7 k l0 x8 x6j7 x7j7)) ∧ (∀ (l0 : List Int) (x6 : Int) (x7 : Int) (x8 : Int), RS (fam Tryz.f19 [7] [] [] (fun r : ByteArray × Int × Int × Bool × Int => .tup [.agg [.str r.1, .int .i64 r.2.1, .int .i64 r.2.2.1], .bool r.2.2.2.1, .int .i64 r.2.2.2.2]) (fun r => [])) (Func.head Tryz.f19 0) ⟨ofT [(0, sq eI l0), (2, .ref 2 0 0 0 3), (6, .int .i64 x6), (7, .int .i64 x7), (8, .int .i64 x8)], ofL [(2, .box [.str (⟨#[]⟩ : ByteArray), .int .i64 0, .int .i64 0])]⟩ (key_Hear.l0 k l0 x6 x7 x8))
  | 0 => ⟨by intro _ _ _ _; simp only [key_Hear.j7]; exact RS.none, by intro _ _ _ _; simp only [key_Hear.l0]; exact RS.none⟩
  | k + 1 => by
    have ih := key_Hear.loops k
    refine ⟨?_, ?_⟩
    · intro l0 x8 x6j7 x7j7
      simp only [key_Hear.j7]
      refine RS.region ?_
      refine RS.go ?_
      refine RT.goto rfl ?_
      refine RS.weak [(0, sq eI l0), (2, .ref 2 0 0 0 3), (6, .int .i64 x6j7), (7, .int .i64 x7j7), (8, .int .i64 (wrap64 (x8 + 1)))] [(2, .box [.str (⟨#[]⟩ : ByteArray), .int .i64 0, .int .i64 0])] ⟨Le.eq (by first | rfl | simp), Le.eq (by first | rfl | simp), Le.eq (by first | rfl | simp), Le.eq (by first | rfl | simp), Le.eq (by first | rfl | simp), trivial⟩ ⟨⟨_, rfl, LeO.refl _⟩, trivial⟩ rfl (dom0 rfl) ?_
      exact ih.2 l0 x6j7 x7j7 (wrap64 (x8 + 1)) 
    · intro l0 x6 x7 x8
      simp only [key_Hear.l0]
      refine RS.go ?_
      refine RT.br rfl (fun c7 => ?_) (fun c7 => ?_)
      · refine RT.call0 rfl (fun _ h => key_offOf.ok k l0 x8 _ h) (LeL.eq rfl) (fun _ => rfl) (fun r2 => ?_)
        refine RS.go ?_
        refine RT.br rfl (fun c4 => ?_) (fun c4 => ?_)
        · refine RT.brT rfl ?_
          refine RT.brT rfl ?_
          refine RT.brT rfl ?_
          refine RT.brT rfl ?_
          refine RT.goto rfl ?_
          refine RS.weak [(0, sq eI l0), (2, .ref 2 0 0 0 3), (6, .int .i64 x8), (7, .int .i64 r2), (8, .int .i64 x8)] [(2, .box [.str (⟨#[]⟩ : ByteArray), .int .i64 0, .int .i64 0])] ⟨Le.eq (by first | rfl | simp), Le.eq (by first | rfl | simp), Le.eq (by first | rfl | simp), Le.eq (by first | rfl | simp), Le.eq (by first | rfl | simp), trivial⟩ ⟨⟨_, rfl, LeO.refl _⟩, trivial⟩ rfl (dom0 rfl) ?_
          exact ih.1 l0 x8 x8 r2 
        · refine RT.brF rfl ?_
          refine RT.brF rfl ?_
          refine RT.brF rfl ?_
          refine RT.br rfl (fun c3 => ?_) (fun c3 => ?_)
          · refine RT.goto rfl ?_
            refine RS.weak [(0, sq eI l0), (2, .ref 2 0 0 0 3), (6, .int .i64 x8), (7, .int .i64 r2), (8, .int .i64 x8)] [(2, .box [.str (⟨#[]⟩ : ByteArray), .int .i64 0, .int .i64 0])] ⟨Le.eq (by first | rfl | simp), Le.eq (by first | rfl | simp), Le.eq (by first | rfl | simp), Le.eq (by first | rfl | simp), Le.eq (by first | rfl | simp), trivial⟩ ⟨⟨_, rfl, LeO.refl _⟩, trivial⟩ rfl (dom0 rfl) ?_
            exact ih.1 l0 x8 x8 r2 
          · refine RT.goto rfl ?_
            refine RS.weak [(0, sq eI l0), (2, .ref 2 0 0 0 3), (6, .int .i64 x6), (7, .int .i64 x7), (8, .int .i64 x8)] [(2, .box [.str (⟨#[]⟩ : ByteArray), .int .i64 0, .int .i64 0])] ⟨Le.eq (by first | rfl | simp), Le.eq (by first | rfl | simp), Le.eq (by first | rfl | simp), Le.eq (by first | rfl | simp), Le.eq (by first | rfl | simp), trivial⟩ ⟨⟨_, rfl, LeO.refl _⟩, trivial⟩ rfl (dom0 rfl) ?_
            exact ih.1 l0 x8 x6 x7 
      · refine RT.call0 rfl (fun _ h => key_read.ok k l0 x6 _ h) (LeL.eq rfl) (fun _ => rfl) (fun r5 => ?_)
        refine RS.go ?_
        refine RT.br rfl (fun c6 => ?_) (fun c6 => ?_)
        · exact RT.done rfl rfl (Le.tup (LeL.cons (Le.refl _) (LeL.cons (Le.refl _) (LeL.cons (Le.refl _) (LeL.nil))))) trivial rfl (dom0 rfl)
        · exact RT.done rfl rfl (Le.tup (LeL.cons (Le.refl _) (LeL.cons (Le.refl _) (LeL.cons (Le.refl _) (LeL.nil))))) trivial rfl (dom0 rfl)
theorem key_Hear.ok (k : Nat) (l0 : List Int) (r : ByteArray × Int × Int × Bool × Int) (h : key_Hear.f k l0 = some r) : Ct Tryz.prog B 19 [sq eI l0] (ofL []) (.tup [.agg [.str r.1, .int .i64 r.2.1, .int .i64 r.2.2.1], .bool r.2.2.2.1, .int .i64 r.2.2.2.2]) (ofL []) := by
  refine Ct.of (Y := (fam Tryz.f19 [7] [] [] (fun r : ByteArray × Int × Int × Bool × Int => .tup [.agg [.str r.1, .int .i64 r.2.1, .int .i64 r.2.2.1], .bool r.2.2.2.1, .int .i64 r.2.2.2.2]) (fun r => []))) Tryz.func19 rfl Tryz.call19 rfl rfl ?_ r h
  unfold key_Hear.f
  refine RS.go ?_
  refine RT.call0 rfl (fun _ h => key_CheckMarks.ok k l0 _ h) (LeL.eq rfl) (fun _ => rfl) (fun r1 => ?_)
  refine RS.go ?_
  refine RT.brN rfl (fun c8 => ?_) (fun c8 => ?_)
  · refine RT.goto rfl ?_
    refine RS.weak [(0, sq eI l0), (2, .ref 2 0 0 0 3), (6, .int .i64 0), (7, .int .i64 0), (8, .int .i64 1)] [(2, .box [.str (⟨#[]⟩ : ByteArray), .int .i64 0, .int .i64 0])] ⟨Le.eq (by first | rfl | simp), Le.eq (by first | rfl | simp), Le.eq (by first | rfl | simp), Le.eq (by first | rfl | simp), Le.eq (by first | rfl | simp), trivial⟩ ⟨⟨_, rfl, LeO.refl _⟩, trivial⟩ rfl (dom0 rfl) ?_
    exact (key_Hear.loops k).2 l0 0 0 1 
  · exact RT.done rfl rfl (Le.tup (LeL.cons (Le.refl _) (LeL.cons (Le.refl _) (LeL.cons (Le.refl _) (LeL.nil))))) trivial rfl (dom0 rfl)
/-! ### key_Code: function 27 -/
def key_Code.l0 : Nat → List (List ByteArray) → Int → Int → List ByteArray → Option (ByteArray × Int)
  | 0, _, _, _, _ => Option.none
  | k + 1, x14, x15, x16, o5 => (if x16 < x15 then (if 0 ≤ x16 then (if x16 < (x14.length : Int) then ((strings_Join.f (rdE e_L x14 x16) (⟨#[32]⟩ : ByteArray)).bind fun r5 => (if o5.length + 1 ≤ 549755813888 then key_Code.l0 k x14 x15 (wrap64 (x16 + 1)) (o5 ++ [r5]) else Option.none)) else Option.none) else Option.none) else ((strings_Join.f o5 (⟨#[32, 47, 32]⟩ : ByteArray)).bind fun r7 => Option.some (r7, 0)))
def key_Code.f (k : Nat) (a0 : ByteArray) : Option (ByteArray × Int) := ((key_CheckSaid.f k a0).bind fun r1 => (if r1 = 0 then ((key_words.f k a0).bind fun r2 => key_Code.l0 k r2 (r2.length : Int) 0 []) else Option.some ((⟨#[]⟩ : ByteArray), r1)))
theorem key_Code.loops : ∀ k, (∀ (x14 : List (List ByteArray)) (x15 : Int) (x16 : Int) (o5 : List ByteArray), RS (fam Tryz.f27 [10] [] [] (fun r : ByteArray × Int => .tup [.str r.1, .int .i64 r.2]) (fun r => [])) (Func.head Tryz.f27 0) ⟨ofT [(5, .osl 5 eS.w 0 o5.length o5.length), (14, sq e_L x14), (15, .int .i64 x15), (16, .int .i64 x16)], ofL [(5, bufE eS o5)]⟩ (key_Code.l0 k x14 x15 x16 o5))
  | 0 => by intro _ _ _ _; simp only [key_Code.l0]; exact RS.none
  | k + 1 => by
    have ih := key_Code.loops k
    · intro x14 x15 x16 o5
      simp only [key_Code.l0]
      refine RS.go ?_
      refine RT.br rfl (fun c8 => ?_) (fun c8 => ?_)
      · refine RT.br rfl (fun c3 => ?_) (fun c3 => RT.none)
        refine RT.br rfl (fun c4 => ?_) (fun c4 => RT.none)
        refine RT.call0 rfl (fun _ h => strings_Join.ok (rdE e_L x14 x16) (⟨#[32]⟩ : ByteArray) _ h) (LeL.eq rfl) (fun _ => rfl) (fun r5 => ?_)
        refine RS.go ?_
        refine RT.goto rfl ?_
        refine RS.slot 23 (sq eS [r5]) (Le.lit (E := eS) (l := [r5]) (cells_of rfl)) ?_
        refine RS.go ?_
        refine RT.req rfl ⟨by first | rfl | simp, by first | exact Nat.le_refl _ | simp⟩ ?_
        refine RT.not rfl (by simp <;> omega) ?_
        refine RT.br rfl (fun c6 => ?_) (fun _ => RT.none)
        refine RT.goto rfl ?_
        refine RS.obj 5 (bufE eS (o5 ++ [r5])) ⟨_, rfl, LeO.app (l := o5) (m := [r5]) fun _ _ _ _ => rfl⟩ ?_
        refine RS.slot 24 (.osl 5 eS.w 0 (o5 ++ [r5]).length (o5 ++ [r5]).length) (Le.oslN rfl (by simp)) ?_
        refine RS.go ?_
        refine RT.goto rfl ?_
        refine RS.weak [(5, .osl 5 eS.w 0 (o5 ++ [r5]).length (o5 ++ [r5]).length), (14, sq e_L x14), (15, .int .i64 x15), (16, .int .i64 (wrap64 (x16 + 1)))] [(5, bufE eS (o5 ++ [r5]))] ⟨Le.oslN rfl (by first | rfl | simp), Le.eq (by first | rfl | simp), Le.eq (by first | rfl | simp), Le.eq (by first | rfl | simp), trivial⟩ ⟨⟨_, rfl, LeO.refl _⟩, trivial⟩ rfl (dom0 rfl) ?_
        exact ih x14 x15 (wrap64 (x16 + 1)) (o5 ++ [r5]) 
      · refine RT.goto rfl ?_
        refine RS.freeze 5 _ _ _ [(5, sq eS o5)] [] rfl ⟨.inr ⟨_, rfl, by first | exact Nat.le_refl _ | simp, rfl⟩, trivial⟩ trivial rfl (dom0 rfl) ?_
        refine RS.region ?_
        refine RS.go ?_
        refine RT.call0 rfl (fun _ h => strings_Join.ok o5 (⟨#[32, 47, 32]⟩ : ByteArray) _ h) (LeL.eq rfl) (fun _ => rfl) (fun r7 => ?_)
        refine RS.go ?_
        exact RT.done rfl rfl (Le.tup (LeL.cons (Le.refl _) (LeL.cons (Le.refl _) (LeL.nil)))) trivial rfl (dom0 rfl)
theorem key_Code.ok (k : Nat) (a0 : ByteArray) (r : ByteArray × Int) (h : key_Code.f k a0 = some r) : Ct Tryz.prog B 27 [.str a0] (ofL []) (.tup [.str r.1, .int .i64 r.2]) (ofL []) := by
  refine Ct.of (Y := (fam Tryz.f27 [10] [] [] (fun r : ByteArray × Int => .tup [.str r.1, .int .i64 r.2]) (fun r => []))) Tryz.func27 rfl Tryz.call27 rfl rfl ?_ r h
  unfold key_Code.f
  refine RS.go ?_
  refine RT.call0 rfl (fun _ h => key_CheckSaid.ok k a0 _ h) (LeL.eq rfl) (fun _ => rfl) (fun r1 => ?_)
  refine RS.go ?_
  refine RT.brN rfl (fun c9 => ?_) (fun c9 => ?_)
  · refine RT.call0 rfl (fun _ h => key_words.ok k a0 _ h) (LeL.eq rfl) (fun _ => rfl) (fun r2 => ?_)
    refine RS.go ?_
    refine RT.goto rfl ?_
    refine RS.ghost 5 5 eS.w (rep eS []) rfl rfl ?_
    refine RS.weak [(5, .osl 5 eS.w 0 ([] : List ByteArray).length ([] : List ByteArray).length), (14, sq e_L r2), (15, .int .i64 (r2.length : Int)), (16, .int .i64 0)] [(5, bufE eS ([] : List ByteArray))] ⟨Le.oslN rfl (by first | rfl | simp), Le.eq (by first | rfl | simp), Le.eq (by first | rfl | simp), Le.eq (by first | rfl | simp), trivial⟩ ⟨⟨_, rfl, LeO.refl _⟩, trivial⟩ rfl (dom0 rfl) ?_
    exact key_Code.loops k r2 (r2.length : Int) 0 [] 
  · exact RT.done rfl rfl (Le.tup (LeL.cons (Le.refl _) (LeL.cons (Le.refl _) (LeL.nil)))) trivial rfl (dom0 rfl)
/-! ### key_isElements: function 87 -/
def key_isElements.f (a0 : ByteArray) : Option (Bool) := (if a0 = (⟨#[]⟩ : ByteArray) then Option.some false else ((strings_Trim.f a0 (⟨#[46, 45]⟩ : ByteArray)).bind fun r1 => Option.some (decide (r1 = (⟨#[]⟩ : ByteArray)))))
theorem key_isElements.ok (a0 : ByteArray) (r : Bool) (h : key_isElements.f a0 = some r) : Ct Tryz.prog B 87 [.str a0] (ofL []) (.bool r) (ofL []) := by
  refine Ct.of (Y := (fam Tryz.f87 [] [] [] (fun r : Bool => .bool r) (fun r => []))) Tryz.func87 rfl Tryz.call87 rfl rfl ?_ r h
  unfold key_isElements.f
  refine RS.go ?_
  refine RT.brN rfl (fun c2 => ?_) (fun c2 => ?_)
  · refine RT.brF rfl ?_
    refine RT.brF rfl ?_
    refine RT.brF rfl ?_
    exact RT.done rfl rfl (Le.refl _) trivial rfl (dom0 rfl)
  · refine RT.brT rfl ?_
    refine RT.call0 rfl (fun _ h => strings_Trim.ok a0 (⟨#[46, 45]⟩ : ByteArray) _ h) (LeL.eq rfl) (fun _ => rfl) (fun r1 => ?_)
    refine RS.go ?_
    refine RT.brT rfl ?_
    refine RT.brT rfl ?_
    exact RT.done rfl rfl (Le.refl _) trivial rfl (dom0 rfl)
/-! ### key_Plain: function 28 -/
mutual
def key_Plain.l1 : Nat → List ByteArray → Int → Int → List ByteArray → List (ByteArray × ByteArray) → ByteArray → List ByteArray → Int → Int → Option (ByteArray × Int)
  | 0, _, _, _, _, _, _, _, _, _ => Option.none
  | k + 1, x16, x17, x18, o5, o14, x8b, x23b, x24b, x25b => (if x25b < x24b then (if 0 ≤ x25b then (if x25b < (x23b.length : Int) then ((key_isElements.f (rdE eS x23b x25b)).bind fun r8 => (if r8 = true then (if ((rdE eS x23b x25b).size : Int) > 10 then Option.some ((⟨#[]⟩ : ByteArray), 3) else ((key_signOf.f o14 (rdE eS x23b x25b)).bind fun r9 => (if x8b.size + r9.size ≤ 9223372036854775807 then key_Plain.l1 k x16 x17 x18 o5 o14 (x8b ++ r9) x23b x24b (wrap64 (x25b + 1)) else Option.none))) else Option.some ((⟨#[]⟩ : ByteArray), 3))) else Option.none) else Option.none) else (if o5.length + 1 ≤ 549755813888 then key_Plain.l0 k x16 x17 (wrap64 (x18 + 1)) (o5 ++ [x8b]) o14 else Option.none))
def key_Plain.l0 : Nat → List ByteArray → Int → Int → List ByteArray → List (ByteArray × ByteArray) → Option (ByteArray × Int)
  | 0, _, _, _, _, _ => Option.none
  | k + 1, x16, x17, x18, o5, o14 => (if x18 < x17 then (if 0 ≤ x18 then (if x18 < (x16.length : Int) then ((strings_Split.f (rdE eS x16 x18) (⟨#[32]⟩ : ByteArray)).bind fun r5 => key_Plain.l1 k x16 x17 x18 o5 o14 (⟨#[]⟩ : ByteArray) r5 (r5.length : Int) 0) else Option.none) else Option.none) else ((strings_Join.f o5 (⟨#[32]⟩ : ByteArray)).bind fun r15 => Option.some (r15, 0)))
end
def key_Plain.f (k : Nat) (a0 : ByteArray) : Option (ByteArray × Int) := (if (a0.size : Int) > 5000 then Option.some ((⟨#[]⟩ : ByteArray), 2) else ((key_byCodes.f k ).bind fun r1 => ((strings_Split.f a0 (⟨#[32, 47, 32]⟩ : ByteArray)).bind fun r2 => key_Plain.l0 k r2 (r2.length : Int) 0 [] r1)))
theorem key_Plain.loops : ∀ k, (∀ (x16 : List ByteArray) (x17 : Int) (x18 : Int) (o5 : List ByteArray) (o14 : List (ByteArray × ByteArray)) (x8b : ByteArray) (x23b : List ByteArray) (x24b : Int) (x25b : Int), RS (fam Tryz.f28 [18] [] [] (fun r : ByteArray × Int => .tup [.str r.1, .int .i64 r.2]) (fun r => [])) (Func.head Tryz.f28 1) ⟨ofT [(4, .omap 14), (5, .osl 5 eS.w 0 o5.length o5.length), (8, .str x8b), (16, sq eS x16), (17, .int .i64 x17), (18, .int .i64 x18), (23, sq eS x23b), (24, .int .i64 x24b), (25, .int .i64 x25b)], ofL [(5, bufE eS o5), (14, mapE KL.strs (ByteArray.empty : ByteArray) AV.str o14)]⟩ (key_Plain.l1 k x16 x17 x18 o5 o14 x8b x23b x24b x25b)) ∧ (∀ (x16 : List ByteArray) (x17 : Int) (x18 : Int) (o5 : List ByteArray) (o14 : List (ByteArray × ByteArray)), RS (fam Tryz.f28 [18] [] [] (fun r : ByteArray × Int => .tup [.str r.1, .int .i64 r.2]) (fun r => [])) (Func.head Tryz.f28 0) ⟨ofT [(4, .omap 14), (5, .osl 5 eS.w 0 o5.length o5.length), (16, sq eS x16), (17, .int .i64 x17), (18, .int .i64 x18)], ofL [(5, bufE eS o5), (14, mapE KL.strs (ByteArray.empty : ByteArray) AV.str o14)]⟩ (key_Plain.l0 k x16 x17 x18 o5 o14))
  | 0 => ⟨by intro _ _ _ _ _ _ _ _ _; simp only [key_Plain.l1]; exact RS.none, by intro _ _ _ _ _; simp only [key_Plain.l0]; exact RS.none⟩
  | k + 1 => by
    have ih := key_Plain.loops k
    refine ⟨?_, ?_⟩
    · intro x16 x17 x18 o5 o14 x8b x23b x24b x25b
      simp only [key_Plain.l1]
      refine RS.go ?_
      refine RT.br rfl (fun c14 => ?_) (fun c14 => ?_)
      · refine RT.br rfl (fun c6 => ?_) (fun c6 => RT.none)
        refine RT.br rfl (fun c7 => ?_) (fun c7 => RT.none)
        refine RT.call0 rfl (fun _ h => key_isElements.ok (rdE eS x23b x25b) _ h) (LeL.eq rfl) (fun _ => rfl) (fun r8 => ?_)
        refine RS.go ?_
        refine RT.brBN rfl (fun c12 => ?_) (fun c12 => ?_)
        · refine RT.brF rfl ?_
          refine RT.brF rfl ?_
          refine RT.brF rfl ?_
          refine RT.br rfl (fun c11 => ?_) (fun c11 => ?_)
          · exact RT.done rfl rfl (Le.tup (LeL.cons (Le.refl _) (LeL.cons (Le.refl _) (LeL.nil)))) trivial rfl (dom0 rfl)
          · refine RT.call rfl (fun _ h => key_signOf.ok o14 (rdE eS x23b x25b) _ h) (fun i => bif Nat.beq i 100000 then 14 else i) (LeL.eq rfl) ⟨⟨_, rfl, LeO.refl _⟩, trivial⟩ (fun _ => rfl) (fun r9 => ?_)
            refine RS.go ?_
            refine RT.br rfl (fun c10 => ?_) (fun c10 => RT.none)
            refine RT.goto rfl ?_
            refine RS.weak [(4, .omap 14), (5, .osl 5 eS.w 0 o5.length o5.length), (8, .str (x8b ++ r9)), (16, sq eS x16), (17, .int .i64 x17), (18, .int .i64 x18), (23, sq eS x23b), (24, .int .i64 x24b), (25, .int .i64 (wrap64 (x25b + 1)))] [(5, bufE eS o5), (14, mapE KL.strs (ByteArray.empty : ByteArray) AV.str o14)] ⟨Le.eq (by first | rfl | simp), Le.oslN rfl (by first | rfl | simp), Le.eq (by first | rfl | simp), Le.eq (by first | rfl | simp), Le.eq (by first | rfl | simp), Le.eq (by first | rfl | simp), Le.eq (by first | rfl | simp), Le.eq (by first | rfl | simp), Le.eq (by first | rfl | simp), trivial⟩ ⟨⟨_, rfl, LeO.refl _⟩, ⟨_, rfl, LeO.refl _⟩, trivial⟩ rfl (dom0 rfl) ?_
            exact ih.1 x16 x17 x18 o5 o14 (x8b ++ r9) x23b x24b (wrap64 (x25b + 1)) 
        · refine RT.brT rfl ?_
          refine RT.brT rfl ?_
          refine RT.brT rfl ?_
          refine RT.brT rfl ?_
          exact RT.done rfl rfl (Le.tup (LeL.cons (Le.refl _) (LeL.cons (Le.refl _) (LeL.nil)))) trivial rfl (dom0 rfl)
      · refine RT.goto rfl ?_
        refine RS.slot 45 (sq eS [x8b]) (Le.lit (E := eS) (l := [x8b]) (cells_of rfl)) ?_
        refine RS.go ?_
        refine RT.req rfl ⟨by first | rfl | simp, by first | exact Nat.le_refl _ | simp⟩ ?_
        refine RT.not rfl (by simp <;> omega) ?_
        refine RT.br rfl (fun c13 => ?_) (fun _ => RT.none)
        refine RT.goto rfl ?_
        refine RS.obj 5 (bufE eS (o5 ++ [x8b])) ⟨_, rfl, LeO.app (l := o5) (m := [x8b]) fun _ _ _ _ => rfl⟩ ?_
        refine RS.slot 46 (.osl 5 eS.w 0 (o5 ++ [x8b]).length (o5 ++ [x8b]).length) (Le.oslN rfl (by simp)) ?_
        refine RS.go ?_
        refine RT.goto rfl ?_
        refine RS.weak [(4, .omap 14), (5, .osl 5 eS.w 0 (o5 ++ [x8b]).length (o5 ++ [x8b]).length), (16, sq eS x16), (17, .int .i64 x17), (18, .int .i64 (wrap64 (x18 + 1)))] [(5, bufE eS (o5 ++ [x8b])), (14, mapE KL.strs (ByteArray.empty : ByteArray) AV.str o14)] ⟨Le.eq (by first | rfl | simp), Le.oslN rfl (by first | rfl | simp), Le.eq (by first | rfl | simp), Le.eq (by first | rfl | simp), Le.eq (by first | rfl | simp), trivial⟩ ⟨⟨_, rfl, LeO.refl _⟩, ⟨_, rfl, LeO.refl _⟩, trivial⟩ rfl (dom0 rfl) ?_
        exact ih.2 x16 x17 (wrap64 (x18 + 1)) (o5 ++ [x8b]) o14 
    · intro x16 x17 x18 o5 o14
      simp only [key_Plain.l0]
      refine RS.go ?_
      refine RT.br rfl (fun c16 => ?_) (fun c16 => ?_)
      · refine RT.br rfl (fun c3 => ?_) (fun c3 => RT.none)
        refine RT.br rfl (fun c4 => ?_) (fun c4 => RT.none)
        refine RT.call0 rfl (fun _ h => strings_Split.ok (rdE eS x16 x18) (⟨#[32]⟩ : ByteArray) _ h) (LeL.eq rfl) (fun _ => rfl) (fun r5 => ?_)
        refine RS.go ?_
        refine RT.goto rfl ?_
        refine RS.weak [(4, .omap 14), (5, .osl 5 eS.w 0 o5.length o5.length), (8, .str (⟨#[]⟩ : ByteArray)), (16, sq eS x16), (17, .int .i64 x17), (18, .int .i64 x18), (23, sq eS r5), (24, .int .i64 (r5.length : Int)), (25, .int .i64 0)] [(5, bufE eS o5), (14, mapE KL.strs (ByteArray.empty : ByteArray) AV.str o14)] ⟨Le.eq (by first | rfl | simp), Le.oslN rfl (by first | rfl | simp), Le.eq (by first | rfl | simp), Le.eq (by first | rfl | simp), Le.eq (by first | rfl | simp), Le.eq (by first | rfl | simp), Le.eq (by first | rfl | simp), Le.eq (by first | rfl | simp), Le.eq (by first | rfl | simp), trivial⟩ ⟨⟨_, rfl, LeO.refl _⟩, ⟨_, rfl, LeO.refl _⟩, trivial⟩ rfl (dom0 rfl) ?_
        exact ih.1 x16 x17 x18 o5 o14 (⟨#[]⟩ : ByteArray) r5 (r5.length : Int) 0 
      · refine RT.goto rfl ?_
        refine RS.freeze 5 _ _ _ [(5, sq eS o5)] [] rfl ⟨.inr ⟨_, rfl, by first | exact Nat.le_refl _ | simp, rfl⟩, trivial⟩ trivial rfl (dom0 rfl) ?_
        refine RS.region ?_
        refine RS.go ?_
        refine RT.call0 rfl (fun _ h => strings_Join.ok o5 (⟨#[32]⟩ : ByteArray) _ h) (LeL.eq rfl) (fun _ => rfl) (fun r15 => ?_)
        refine RS.go ?_
        exact RT.done rfl rfl (Le.tup (LeL.cons (Le.refl _) (LeL.cons (Le.refl _) (LeL.nil)))) trivial rfl (dom0 rfl)
theorem key_Plain.ok (k : Nat) (a0 : ByteArray) (r : ByteArray × Int) (h : key_Plain.f k a0 = some r) : Ct Tryz.prog B 28 [.str a0] (ofL []) (.tup [.str r.1, .int .i64 r.2]) (ofL []) := by
  refine Ct.of (Y := (fam Tryz.f28 [18] [] [] (fun r : ByteArray × Int => .tup [.str r.1, .int .i64 r.2]) (fun r => []))) Tryz.func28 rfl Tryz.call28 rfl rfl ?_ r h
  unfold key_Plain.f
  refine RS.go ?_
  refine RT.br rfl (fun c17 => ?_) (fun c17 => ?_)
  · exact RT.done rfl rfl (Le.tup (LeL.cons (Le.refl _) (LeL.cons (Le.refl _) (LeL.nil)))) trivial rfl (dom0 rfl)
  · refine RT.call rfl (fun _ h => key_byCodes.ok k  _ h) (fun i => bif Nat.beq i 4 then 14 else i) (LeL.eq rfl) trivial (fun _ => rfl) (fun r1 => ?_)
    refine RS.go ?_
    refine RT.call0 rfl (fun _ h => strings_Split.ok a0 (⟨#[32, 47, 32]⟩ : ByteArray) _ h) (LeL.eq rfl) (fun _ => rfl) (fun r2 => ?_)
    refine RS.go ?_
    refine RT.goto rfl ?_
    refine RS.ghost 5 5 eS.w (rep eS []) rfl rfl ?_
    refine RS.weak [(4, .omap 14), (5, .osl 5 eS.w 0 ([] : List ByteArray).length ([] : List ByteArray).length), (16, sq eS r2), (17, .int .i64 (r2.length : Int)), (18, .int .i64 0)] [(5, bufE eS ([] : List ByteArray)), (14, mapE KL.strs (ByteArray.empty : ByteArray) AV.str r1)] ⟨Le.eq (by first | rfl | simp), Le.oslN rfl (by first | rfl | simp), Le.eq (by first | rfl | simp), Le.eq (by first | rfl | simp), Le.eq (by first | rfl | simp), trivial⟩ ⟨⟨_, rfl, LeO.refl _⟩, ⟨_, rfl, LeO.refl _⟩, trivial⟩ rfl (dom0 rfl) ?_
    exact (key_Plain.loops k).2 r2 (r2.length : Int) 0 [] r1 
/-! ### pilekeep1_KeyedIsHeard: function 5 -/
def pilekeep1_KeyedIsHeard.l0 : Nat → ByteArray → Int → Int → Int → ByteArray → Int → List Int → Int → Int → Option (Bool)
  | 0, _, _, _, _, _, _, _, _, _ => Option.none
  | k + 1, x4, x5, x7, x10, x15, x16, x103, x104, x105 => (if x105 < x104 then (if 0 ≤ x105 then (if x105 < (x103.length : Int) then pilekeep1_KeyedIsHeard.l0 k x4 x5 x7 x10 x15 (wrap64 (x16 + (rd x103 x105))) x103 x104 (wrap64 (x105 + 1)) else Option.none) else Option.none) else ((key_Units.f k x4).bind fun r26 => (if x7 = 0 then (if x10 = 0 then (if x15 = x4 then (if r26.2 = 0 then (if x16 = wrap64 (r26.1 * x5) then ((pilekeep1_ready.f k ).bind fun r27 => Option.some r27) else Option.some false) else Option.some false) else Option.some false) else Option.some false) else Option.some false)))
def pilekeep1_KeyedIsHeard.f (k : Nat) (l0 : List Int) : Option (Bool) := ((pilemake_Stream_Saying.f k l0 0).bind fun r1 => ((pilemake_Stream_Pick.f k r1.2.1 r1.2.2 [1, 7, 60, 240]).bind fun r2 => ((pileref1_SaidFault.f k r1.1).bind fun r3 => (if r3 = 0 then ((key_Key.f k r1.1 r2.1 r2.1).bind fun r5 => ((key_With.f k r5.1 r2.1).bind fun r6 => (if r5.2 = 0 then (if r6.2.2 = 0 then (if r6.1 = r1.1 then (if r6.2.1 = 0 then ((key_Uneven.f k r5.1 r2.1).bind fun r7 => ((key_Hear.f k r5.1).bind fun r8 => (if r7.2 = 0 then (if r8.2.2.2.2 = 0 then (if (r7.1.length : Int) = 0 then (if r8.2.2.2.1 = true then (if r8.2.2.1 = 0 then ((key_Code.f k r1.1).bind fun r9 => ((key_Plain.f k r9.1).bind fun r10 => pilekeep1_KeyedIsHeard.l0 k r1.1 r2.1 r9.2 r10.2 r10.1 0 r5.1 (r5.1.length : Int) 0)) else Option.some false) else ((key_Code.f k r1.1).bind fun r22 => ((key_Plain.f k r22.1).bind fun r23 => pilekeep1_KeyedIsHeard.l0 k r1.1 r2.1 r22.2 r23.2 r23.1 0 r5.1 (r5.1.length : Int) 0))) else Option.some false) else Option.some false) else Option.some false))) else Option.some false) else Option.some false) else Option.some false) else Option.some false))) else ((pilekeep1_ready.f k ).bind fun r4 => Option.some r4)))))
theorem pilekeep1_KeyedIsHeard.loops : ∀ k, (∀ (x4 : ByteArray) (x5 : Int) (x7 : Int) (x10 : Int) (x15 : ByteArray) (x16 : Int) (x103 : List Int) (x104 : Int) (x105 : Int), RS (fam Tryz.f5 [] [] [] (fun r : Bool => .bool r) (fun r => [])) (Func.head Tryz.f5 0) ⟨ofT [(4, .str x4), (5, .int .i64 x5), (7, .int .i64 x7), (10, .int .i64 x10), (15, .str x15), (16, .int .i64 x16), (103, sq eI x103), (104, .int .i64 x104), (105, .int .i64 x105)], ofL []⟩ (pilekeep1_KeyedIsHeard.l0 k x4 x5 x7 x10 x15 x16 x103 x104 x105))
  | 0 => by intro _ _ _ _ _ _ _ _ _; simp only [pilekeep1_KeyedIsHeard.l0]; exact RS.none
  | k + 1 => by
    have ih := pilekeep1_KeyedIsHeard.loops k
    · intro x4 x5 x7 x10 x15 x16 x103 x104 x105
      simp only [pilekeep1_KeyedIsHeard.l0]
      refine RS.go ?_
      refine RT.br rfl (fun c33 => ?_) (fun c33 => ?_)
      · refine RT.br rfl (fun c24 => ?_) (fun c24 => RT.none)
        refine RT.br rfl (fun c25 => ?_) (fun c25 => RT.none)
        refine RT.goto rfl ?_
        refine RS.weak [(4, .str x4), (5, .int .i64 x5), (7, .int .i64 x7), (10, .int .i64 x10), (15, .str x15), (16, .int .i64 (wrap64 (x16 + (rd x103 x105)))), (103, sq eI x103), (104, .int .i64 x104), (105, .int .i64 (wrap64 (x105 + 1)))] [] ⟨Le.eq (by first | rfl | simp), Le.eq (by first | rfl | simp), Le.eq (by first | rfl | simp), Le.eq (by first | rfl | simp), Le.eq (by first | rfl | simp), Le.eq (by first | rfl | simp), Le.eq (by first | rfl | simp), Le.eq (by first | rfl | simp), Le.eq (by first | rfl | simp), trivial⟩ trivial rfl (dom0 rfl) ?_
        exact ih x4 x5 x7 x10 x15 (wrap64 (x16 + (rd x103 x105))) x103 x104 (wrap64 (x105 + 1)) 
      · refine RT.call0 rfl (fun _ h => key_Units.ok k x4 _ h) (LeL.eq rfl) (fun _ => rfl) (fun r26 => ?_)
        refine RS.go ?_
        refine RT.br rfl (fun c32 => ?_) (fun c32 => ?_)
        · refine RT.brT rfl ?_
          refine RT.brT rfl ?_
          refine RT.br rfl (fun c31 => ?_) (fun c31 => ?_)
          · refine RT.brT rfl ?_
            refine RT.brT rfl ?_
            refine RT.brT rfl ?_
            refine RT.br rfl (fun c30 => ?_) (fun c30 => ?_)
            · refine RT.brT rfl ?_
              refine RT.brT rfl ?_
              refine RT.br rfl (fun c29 => ?_) (fun c29 => ?_)
              · refine RT.brT rfl ?_
                refine RT.brT rfl ?_
                refine RT.brT rfl ?_
                refine RT.brT rfl ?_
                refine RT.brT rfl ?_
                refine RT.br rfl (fun c28 => ?_) (fun c28 => ?_)
                · refine RT.call0 rfl (fun _ h => pilekeep1_ready.ok k  _ h) (LeL.eq rfl) (fun _ => rfl) (fun r27 => ?_)
                  refine RS.go ?_
                  refine RT.brT rfl ?_
                  exact RT.done rfl rfl (Le.refl _) trivial rfl (dom0 rfl)
                · refine RT.brF rfl ?_
                  exact RT.done rfl rfl (Le.refl _) trivial rfl (dom0 rfl)
              · refine RT.brF rfl ?_
                refine RT.brF rfl ?_
                refine RT.brF rfl ?_
                refine RT.brF rfl ?_
                refine RT.brF rfl ?_
                refine RT.brF rfl ?_
                refine RT.brF rfl ?_
                exact RT.done rfl rfl (Le.refl _) trivial rfl (dom0 rfl)
            · refine RT.brF rfl ?_
              refine RT.brF rfl ?_
              refine RT.brF rfl ?_
              refine RT.brF rfl ?_
              refine RT.brF rfl ?_
              refine RT.brF rfl ?_
              refine RT.brF rfl ?_
              refine RT.brF rfl ?_
              refine RT.brF rfl ?_
              refine RT.brF rfl ?_
              exact RT.done rfl rfl (Le.refl _) trivial rfl (dom0 rfl)
          · refine RT.brF rfl ?_
            refine RT.brF rfl ?_
            refine RT.brF rfl ?_
            refine RT.brF rfl ?_
            refine RT.brF rfl ?_
            refine RT.brF rfl ?_
            refine RT.brF rfl ?_
            refine RT.brF rfl ?_
            refine RT.brF rfl ?_
            refine RT.brF rfl ?_
            refine RT.brF rfl ?_
            refine RT.brF rfl ?_
            refine RT.brF rfl ?_
            refine RT.brF rfl ?_
            exact RT.done rfl rfl (Le.refl _) trivial rfl (dom0 rfl)
        · refine RT.brF rfl ?_
          refine RT.brF rfl ?_
          refine RT.brF rfl ?_
          refine RT.brF rfl ?_
          refine RT.brF rfl ?_
          refine RT.brF rfl ?_
          refine RT.brF rfl ?_
          refine RT.brF rfl ?_
          refine RT.brF rfl ?_
          refine RT.brF rfl ?_
          refine RT.brF rfl ?_
          refine RT.brF rfl ?_
          refine RT.brF rfl ?_
          refine RT.brF rfl ?_
          refine RT.brF rfl ?_
          refine RT.brF rfl ?_
          refine RT.brF rfl ?_
          exact RT.done rfl rfl (Le.refl _) trivial rfl (dom0 rfl)
theorem pilekeep1_KeyedIsHeard.ok (k : Nat) (l0 : List Int) (r : Bool) (h : pilekeep1_KeyedIsHeard.f k l0 = some r) : Ct Tryz.prog B 5 [sq eI l0] (ofL []) (.bool r) (ofL []) := by
  refine Ct.of (Y := (fam Tryz.f5 [] [] [] (fun r : Bool => .bool r) (fun r => []))) Tryz.func5 rfl Tryz.call5 rfl rfl ?_ r h
  unfold pilekeep1_KeyedIsHeard.f
  refine RS.go ?_
  refine RT.call rfl (fun _ h => pilemake_Stream_Saying.ok k l0 0 _ h) (fun i => bif Nat.beq i 100000 then 23 else i) (LeL.eq rfl) ⟨⟨_, rfl, LeO.refl _⟩, trivial⟩ (fun _ => rfl) (fun r1 => ?_)
  refine RS.go ?_
  refine RT.goto rfl ?_
  refine RS.slot 27 (sq eI [1, 7, 60, 240]) (Le.lit (E := eI) (l := [1, 7, 60, 240]) (cells_of rfl)) ?_
  refine RS.go ?_
  refine RT.call rfl (fun _ h => pilemake_Stream_Pick.ok k r1.2.1 r1.2.2 [1, 7, 60, 240] _ h) (fun i => bif Nat.beq i 100000 then 23 else i) (LeL.eq rfl) ⟨⟨_, rfl, LeO.refl _⟩, trivial⟩ (fun _ => rfl) (fun r2 => ?_)
  refine RS.go ?_
  refine RT.call0 rfl (fun _ h => pileref1_SaidFault.ok k r1.1 _ h) (LeL.eq rfl) (fun _ => rfl) (fun r3 => ?_)
  refine RS.go ?_
  refine RT.brN rfl (fun c42 => ?_) (fun c42 => ?_)
  · refine RT.call0 rfl (fun _ h => key_Key.ok k r1.1 r2.1 r2.1 _ h) (LeL.eq rfl) (fun _ => rfl) (fun r5 => ?_)
    refine RS.go ?_
    refine RT.call0 rfl (fun _ h => key_With.ok k r5.1 r2.1 _ h) (LeL.eq rfl) (fun _ => rfl) (fun r6 => ?_)
    refine RS.go ?_
    refine RT.brN rfl (fun c41 => ?_) (fun c41 => ?_)
    · refine RT.brF rfl ?_
      refine RT.brF rfl ?_
      refine RT.brN rfl (fun c40 => ?_) (fun c40 => ?_)
      · refine RT.brF rfl ?_
        refine RT.brF rfl ?_
        refine RT.brF rfl ?_
        refine RT.brN rfl (fun c39 => ?_) (fun c39 => ?_)
        · refine RT.brF rfl ?_
          refine RT.brF rfl ?_
          refine RT.brN rfl (fun c38 => ?_) (fun c38 => ?_)
          · refine RT.call0 rfl (fun _ h => key_Uneven.ok k r5.1 r2.1 _ h) (LeL.eq rfl) (fun _ => rfl) (fun r7 => ?_)
            refine RS.go ?_
            refine RT.call0 rfl (fun _ h => key_Hear.ok k r5.1 _ h) (LeL.eq rfl) (fun _ => rfl) (fun r8 => ?_)
            refine RS.go ?_
            refine RT.brN rfl (fun c37 => ?_) (fun c37 => ?_)
            · refine RT.brF rfl ?_
              refine RT.brF rfl ?_
              refine RT.brN rfl (fun c36 => ?_) (fun c36 => ?_)
              · refine RT.brF rfl ?_
                refine RT.brF rfl ?_
                refine RT.brF rfl ?_
                refine RT.brN rfl (fun c35 => ?_) (fun c35 => ?_)
                · refine RT.brF rfl ?_
                  refine RT.brB rfl (fun c34 => ?_) (fun c34 => ?_)
                  · refine RT.brT rfl ?_
                    refine RT.brT rfl ?_
                    refine RT.brF rfl ?_
                    refine RT.brT rfl ?_
                    refine RT.brF rfl ?_
                    refine RT.brN rfl (fun c21 => ?_) (fun c21 => ?_)
                    · refine RT.call0 rfl (fun _ h => key_Code.ok k r1.1 _ h) (LeL.eq rfl) (fun _ => rfl) (fun r9 => ?_)
                      refine RS.go ?_
                      refine RT.call0 rfl (fun _ h => key_Plain.ok k r9.1 _ h) (LeL.eq rfl) (fun _ => rfl) (fun r10 => ?_)
                      refine RS.go ?_
                      refine RT.goto rfl ?_
                      refine RS.weak [(4, .str r1.1), (5, .int .i64 r2.1), (7, .int .i64 r9.2), (10, .int .i64 r10.2), (15, .str r10.1), (16, .int .i64 0), (103, sq eI r5.1), (104, .int .i64 (r5.1.length : Int)), (105, .int .i64 0)] [] ⟨Le.eq (by first | rfl | simp), Le.eq (by first | rfl | simp), Le.eq (by first | rfl | simp), Le.eq (by first | rfl | simp), Le.eq (by first | rfl | simp), Le.eq (by first | rfl | simp), Le.eq (by first | rfl | simp), Le.eq (by first | rfl | simp), Le.eq (by first | rfl | simp), trivial⟩ trivial rfl (dom0 rfl) ?_
                      exact pilekeep1_KeyedIsHeard.loops k r1.1 r2.1 r9.2 r10.2 r10.1 0 r5.1 (r5.1.length : Int) 0 
                    · exact RT.done rfl rfl (Le.refl _) trivial rfl (dom0 rfl)
                  · refine RT.brF rfl ?_
                    refine RT.brF rfl ?_
                    refine RT.brF rfl ?_
                    refine RT.brF rfl ?_
                    refine RT.brF rfl ?_
                    refine RT.brF rfl ?_
                    refine RT.call0 rfl (fun _ h => key_Code.ok k r1.1 _ h) (LeL.eq rfl) (fun _ => rfl) (fun r22 => ?_)
                    refine RS.go ?_
                    refine RT.call0 rfl (fun _ h => key_Plain.ok k r22.1 _ h) (LeL.eq rfl) (fun _ => rfl) (fun r23 => ?_)
                    refine RS.go ?_
                    refine RT.goto rfl ?_
                    refine RS.weak [(4, .str r1.1), (5, .int .i64 r2.1), (7, .int .i64 r22.2), (10, .int .i64 r23.2), (15, .str r23.1), (16, .int .i64 0), (103, sq eI r5.1), (104, .int .i64 (r5.1.length : Int)), (105, .int .i64 0)] [] ⟨Le.eq (by first | rfl | simp), Le.eq (by first | rfl | simp), Le.eq (by first | rfl | simp), Le.eq (by first | rfl | simp), Le.eq (by first | rfl | simp), Le.eq (by first | rfl | simp), Le.eq (by first | rfl | simp), Le.eq (by first | rfl | simp), Le.eq (by first | rfl | simp), trivial⟩ trivial rfl (dom0 rfl) ?_
                    exact pilekeep1_KeyedIsHeard.loops k r1.1 r2.1 r22.2 r23.2 r23.1 0 r5.1 (r5.1.length : Int) 0 
                · refine RT.brT rfl ?_
                  refine RT.brT rfl ?_
                  refine RT.brT rfl ?_
                  refine RT.brT rfl ?_
                  exact RT.done rfl rfl (Le.refl _) trivial rfl (dom0 rfl)
              · refine RT.brT rfl ?_
                refine RT.brT rfl ?_
                refine RT.brT rfl ?_
                refine RT.brT rfl ?_
                refine RT.brT rfl ?_
                refine RT.brT rfl ?_
                refine RT.brT rfl ?_
                refine RT.brT rfl ?_
                exact RT.done rfl rfl (Le.refl _) trivial rfl (dom0 rfl)
            · refine RT.brT rfl ?_
              refine RT.brT rfl ?_
              refine RT.brT rfl ?_
              refine RT.brT rfl ?_
              refine RT.brT rfl ?_
              refine RT.brT rfl ?_
              refine RT.brT rfl ?_
              refine RT.brT rfl ?_
              refine RT.brT rfl ?_
              refine RT.brT rfl ?_
              refine RT.brT rfl ?_
              exact RT.done rfl rfl (Le.refl _) trivial rfl (dom0 rfl)
          · exact RT.done rfl rfl (Le.refl _) trivial rfl (dom0 rfl)
        · refine RT.brT rfl ?_
          refine RT.brT rfl ?_
          refine RT.brT rfl ?_
          exact RT.done rfl rfl (Le.refl _) trivial rfl (dom0 rfl)
      · refine RT.brT rfl ?_
        refine RT.brT rfl ?_
        refine RT.brT rfl ?_
        refine RT.brT rfl ?_
        refine RT.brT rfl ?_
        refine RT.brT rfl ?_
        refine RT.brT rfl ?_
        exact RT.done rfl rfl (Le.refl _) trivial rfl (dom0 rfl)
    · refine RT.brT rfl ?_
      refine RT.brT rfl ?_
      refine RT.brT rfl ?_
      refine RT.brT rfl ?_
      refine RT.brT rfl ?_
      refine RT.brT rfl ?_
      refine RT.brT rfl ?_
      refine RT.brT rfl ?_
      refine RT.brT rfl ?_
      refine RT.brT rfl ?_
      exact RT.done rfl rfl (Le.refl _) trivial rfl (dom0 rfl)
  · refine RT.call0 rfl (fun _ h => pilekeep1_ready.ok k  _ h) (LeL.eq rfl) (fun _ => rfl) (fun r4 => ?_)
    refine RS.go ?_
    exact RT.done rfl rfl (Le.refl _) trivial rfl (dom0 rfl)
end Go.EV
