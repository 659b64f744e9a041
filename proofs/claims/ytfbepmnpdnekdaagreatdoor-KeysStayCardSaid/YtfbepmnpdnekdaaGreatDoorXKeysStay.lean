/- Printed by a program of this session: a Lean function for each function that the law reaches, and that the code comes to it. -/
import Derived.Test.YtfbepmnpdnekdaaGreatDoorXKeysStaya
set_option linter.unusedVariables false
set_option linter.unusedSimpArgs false
namespace Go.EV
open Go Go.Proofs Go.RowKit
set_option maxHeartbeats 4000000
set_option maxRecDepth 100000
set_option linter.unusedVariables false
/-! ### key_words: function 85 -/
mutual
def key_words.l1 : Nat → List ByteArray → Int → Int → List (List ByteArray) → List (Int × ByteArray) → Int → List ByteArray → Option ((List (List ByteArray)))
  | 0, _, _, _, _, _, _, _ => Option.none
  | k + 1, x11, x12, x13, o4, o9, x19b, o7b => (if x19b < ((rdE eS x11 x13).size : Int) then (if 0 ≤ x19b then (if x19b < ((rdE eS x11 x13).size : Int) then (if o7b.length + 1 ≤ 549755813888 then key_words.l1 k x11 x12 x13 o4 o9 (wrap64 (x19b + 1)) (o7b ++ [(mget (ByteArray.empty : ByteArray) o9 (bt (rdE eS x11 x13) x19b))]) else Option.none) else Option.none) else Option.none) else (if o4.length + 1 ≤ 549755813888 then key_words.l0 k x11 x12 (wrap64 (x13 + 1)) (o4 ++ [o7b]) o9 else Option.none))
def key_words.l0 : Nat → List ByteArray → Int → Int → List (List ByteArray) → List (Int × ByteArray) → Option ((List (List ByteArray)))
  | 0, _, _, _, _, _ => Option.none
  | k + 1, x11, x12, x13, o4, o9 => (if x13 < x12 then (if 0 ≤ x13 then (if x13 < (x11.length : Int) then key_words.l1 k x11 x12 x13 o4 o9 0 [] else Option.none) else Option.none) else Option.some o4)
end
def key_words.f (k : Nat) (a0 : ByteArray) : Option ((List (List ByteArray))) := ((key_byBytes.f k ).bind fun r1 => ((strings_Split.f a0 (⟨#[32]⟩ : ByteArray)).bind fun r2 => key_words.l0 k r2 (r2.length : Int) 0 [] r1))
theorem key_words.loops : ∀ k, (∀ (x11 : List ByteArray) (x12 : Int) (x13 : Int) (o4 : List (List ByteArray)) (o9 : List (Int × ByteArray)) (x19b : Int) (o7b : List ByteArray), RS (fam Tryz.f85 [12] [] [] (fun r : (List (List ByteArray)) => sq e_L r) (fun r => [])) (Func.head Tryz.f85 1) ⟨ofT [(3, .omap 9), (4, .osl 4 e_L.w 0 o4.length o4.length), (6, .str (rdE eS x11 x13)), (7, .osl 7 eS.w 0 o7b.length o7b.length), (11, sq eS x11), (12, .int .i64 x12), (13, .int .i64 x13), (18, .int .i64 ((rdE eS x11 x13).size : Int)), (19, .int .i64 x19b)], ofL [(4, bufE e_L o4), (7, bufE eS o7b), (9, mapE (KL.ints .u8) (ByteArray.empty : ByteArray) AV.str o9)]⟩ (key_words.l1 k x11 x12 x13 o4 o9 x19b o7b)) ∧ (∀ (x11 : List ByteArray) (x12 : Int) (x13 : Int) (o4 : List (List ByteArray)) (o9 : List (Int × ByteArray)), RS (fam Tryz.f85 [12] [] [] (fun r : (List (List ByteArray)) => sq e_L r) (fun r => [])) (Func.head Tryz.f85 0) ⟨ofT [(3, .omap 9), (4, .osl 4 e_L.w 0 o4.length o4.length), (11, sq eS x11), (12, .int .i64 x12), (13, .int .i64 x13)], ofL [(4, bufE e_L o4), (9, mapE (KL.ints .u8) (ByteArray.empty : ByteArray) AV.str o9)]⟩ (key_words.l0 k x11 x12 x13 o4 o9))
  | 0 => ⟨by intro _ _ _ _ _ _ _; simp only [key_words.l1]; exact RS.none, by intro _ _ _ _ _; simp only [key_words.l0]; exact RS.none⟩
  | k + 1 => by
    have ih := key_words.loops k
    refine ⟨?_, ?_⟩
    · intro x11 x12 x13 o4 o9 x19b o7b
      simp only [key_words.l1]
      refine RS.go ?_
      refine RT.br rfl (fun c9 => ?_) (fun c9 => ?_)
      · refine RT.br rfl (fun c5 => ?_) (fun c5 => RT.none)
        refine RT.br rfl (fun c6 => ?_) (fun c6 => RT.none)
        refine RT.req rfl (congrArg AV.str (map_end (l := o9) (d := (ByteArray.empty : ByteArray)))) ?_
        refine RT.goto rfl ?_
        refine RS.slot 28 (sq eS [(mget (ByteArray.empty : ByteArray) o9 (bt (rdE eS x11 x13) x19b))]) (Le.lit (E := eS) (l := [(mget (ByteArray.empty : ByteArray) o9 (bt (rdE eS x11 x13) x19b))]) (cells_of rfl)) ?_
        refine RS.go ?_
        refine RT.req rfl ⟨by first | rfl | simp, by first | exact Nat.le_refl _ | simp⟩ ?_
        refine RT.not rfl (by simp <;> omega) ?_
        refine RT.br rfl (fun c7 => ?_) (fun _ => RT.none)
        refine RT.goto rfl ?_
        refine RS.obj 7 (bufE eS (o7b ++ [(mget (ByteArray.empty : ByteArray) o9 (bt (rdE eS x11 x13) x19b))])) ⟨_, rfl, LeO.app (l := o7b) (m := [(mget (ByteArray.empty : ByteArray) o9 (bt (rdE eS x11 x13) x19b))]) fun _ _ _ _ => rfl⟩ ?_
        refine RS.slot 29 (.osl 7 eS.w 0 (o7b ++ [(mget (ByteArray.empty : ByteArray) o9 (bt (rdE eS x11 x13) x19b))]).length (o7b ++ [(mget (ByteArray.empty : ByteArray) o9 (bt (rdE eS x11 x13) x19b))]).length) (by first | exact Le.oslN rfl (by simp) | exact Le.trans (y := .osl 7 eS.w 0 (o7b.length + 1) (o7b.length + 1)) (Le.refl _) (Le.oslN rfl (by simp))) ?_
        refine RS.go ?_
        refine RT.goto rfl ?_
        refine RS.weak [(3, .omap 9), (4, .osl 4 e_L.w 0 o4.length o4.length), (6, .str (rdE eS x11 x13)), (7, .osl 7 eS.w 0 (o7b ++ [(mget (ByteArray.empty : ByteArray) o9 (bt (rdE eS x11 x13) x19b))]).length (o7b ++ [(mget (ByteArray.empty : ByteArray) o9 (bt (rdE eS x11 x13) x19b))]).length), (11, sq eS x11), (12, .int .i64 x12), (13, .int .i64 x13), (18, .int .i64 ((rdE eS x11 x13).size : Int)), (19, .int .i64 (wrap64 (x19b + 1)))] [(4, bufE e_L o4), (7, bufE eS (o7b ++ [(mget (ByteArray.empty : ByteArray) o9 (bt (rdE eS x11 x13) x19b))])), (9, mapE (KL.ints .u8) (ByteArray.empty : ByteArray) AV.str o9)] ⟨Le.eq (by first | rfl | simp), (by first | exact Le.oslN rfl (by first | rfl | simp) | exact Le.refl _ | exact Le.eq (by first | rfl | simp)), Le.eq (by first | rfl | simp), (by first | exact Le.oslN rfl (by first | rfl | simp) | exact Le.refl _ | exact Le.eq (by first | rfl | simp)), Le.eq (by first | rfl | simp), Le.eq (by first | rfl | simp), Le.eq (by first | rfl | simp), Le.eq (by first | rfl | simp), Le.eq (by first | rfl | simp), trivial⟩ ⟨⟨_, rfl, LeO.refl _⟩, ⟨_, rfl, LeO.refl _⟩, ⟨_, rfl, LeO.refl _⟩, trivial⟩ rfl (dom0 rfl) ?_
        exact ih.1 x11 x12 x13 o4 o9 (wrap64 (x19b + 1)) (o7b ++ [(mget (ByteArray.empty : ByteArray) o9 (bt (rdE eS x11 x13) x19b))]) 
      · refine RT.goto rfl ?_
        refine RS.freeze 7 _ _ _ [(3, .omap 9), (4, .osl 4 e_L.w 0 o4.length o4.length), (7, sq eS o7b), (11, sq eS x11), (12, .int .i64 x12), (13, .int .i64 x13)] [(4, bufE e_L o4), (9, mapE (KL.ints .u8) (ByteArray.empty : ByteArray) AV.str o9)] rfl ⟨.inl (Le.refl _), .inl (Le.refl _), .inr ⟨_, rfl, by first | exact Nat.le_refl _ | simp, rfl⟩, .inl (Le.refl _), .inl (Le.refl _), .inl (Le.refl _), trivial⟩ ⟨⟨_, rfl, LeO.refl _⟩, ⟨_, rfl, LeO.refl _⟩, trivial⟩ rfl (dom0 rfl) ?_
        refine RS.region ?_
        refine RS.go ?_
        refine RT.goto rfl ?_
        refine RS.slot 33 (sq e_L [o7b]) (Le.lit (E := e_L) (l := [o7b]) (cells_of rfl)) ?_
        refine RS.go ?_
        refine RT.req rfl ⟨by first | rfl | simp, by first | exact Nat.le_refl _ | simp⟩ ?_
        refine RT.not rfl (by simp <;> omega) ?_
        refine RT.br rfl (fun c8 => ?_) (fun _ => RT.none)
        refine RT.goto rfl ?_
        refine RS.obj 4 (bufE e_L (o4 ++ [o7b])) ⟨_, rfl, LeO.app (l := o4) (m := [o7b]) fun _ _ _ _ => rfl⟩ ?_
        refine RS.slot 34 (.osl 4 e_L.w 0 (o4 ++ [o7b]).length (o4 ++ [o7b]).length) (by first | exact Le.oslN rfl (by simp) | exact Le.trans (y := .osl 4 e_L.w 0 (o4.length + 1) (o4.length + 1)) (Le.refl _) (Le.oslN rfl (by simp))) ?_
        refine RS.go ?_
        refine RT.goto rfl ?_
        refine RS.weak [(3, .omap 9), (4, .osl 4 e_L.w 0 (o4 ++ [o7b]).length (o4 ++ [o7b]).length), (11, sq eS x11), (12, .int .i64 x12), (13, .int .i64 (wrap64 (x13 + 1)))] [(4, bufE e_L (o4 ++ [o7b])), (9, mapE (KL.ints .u8) (ByteArray.empty : ByteArray) AV.str o9)] ⟨Le.eq (by first | rfl | simp), (by first | exact Le.oslN rfl (by first | rfl | simp) | exact Le.refl _ | exact Le.eq (by first | rfl | simp)), Le.eq (by first | rfl | simp), Le.eq (by first | rfl | simp), Le.eq (by first | rfl | simp), trivial⟩ ⟨⟨_, rfl, LeO.refl _⟩, ⟨_, rfl, LeO.refl _⟩, trivial⟩ rfl (dom0 rfl) ?_
        exact ih.2 x11 x12 (wrap64 (x13 + 1)) (o4 ++ [o7b]) o9 
    · intro x11 x12 x13 o4 o9
      simp only [key_words.l0]
      refine RS.go ?_
      refine RT.br rfl (fun c10 => ?_) (fun c10 => ?_)
      · refine RT.br rfl (fun c3 => ?_) (fun c3 => RT.none)
        refine RT.br rfl (fun c4 => ?_) (fun c4 => RT.none)
        refine RT.goto rfl ?_
        refine RS.ghost 7 7 eS.w (rep eS []) rfl rfl ?_
        refine RS.weak [(3, .omap 9), (4, .osl 4 e_L.w 0 o4.length o4.length), (6, .str (rdE eS x11 x13)), (7, .osl 7 eS.w 0 ([] : List ByteArray).length ([] : List ByteArray).length), (11, sq eS x11), (12, .int .i64 x12), (13, .int .i64 x13), (18, .int .i64 ((rdE eS x11 x13).size : Int)), (19, .int .i64 0)] [(4, bufE e_L o4), (7, bufE eS ([] : List ByteArray)), (9, mapE (KL.ints .u8) (ByteArray.empty : ByteArray) AV.str o9)] ⟨Le.eq (by first | rfl | simp), (by first | exact Le.oslN rfl (by first | rfl | simp) | exact Le.refl _ | exact Le.eq (by first | rfl | simp)), Le.eq (by first | rfl | simp), (by first | exact Le.oslN rfl (by first | rfl | simp) | exact Le.refl _ | exact Le.eq (by first | rfl | simp)), Le.eq (by first | rfl | simp), Le.eq (by first | rfl | simp), Le.eq (by first | rfl | simp), Le.eq (by first | rfl | simp), Le.eq (by first | rfl | simp), trivial⟩ ⟨⟨_, rfl, LeO.refl _⟩, ⟨_, rfl, LeO.refl _⟩, ⟨_, rfl, LeO.refl _⟩, trivial⟩ rfl (dom0 rfl) ?_
        exact ih.1 x11 x12 x13 o4 o9 0 [] 
      · refine RT.freeze 4 _ _ _ [(2, sq e_L o4)] [] rfl rfl ⟨.inr ⟨_, rfl, by first | exact Nat.le_refl _ | simp, rfl⟩, trivial⟩ trivial rfl (dom0 rfl) ?_
        exact RT.done rfl rfl (Le.refl _) trivial rfl (dom0 rfl)
theorem key_words.ok (k : Nat) (a0 : ByteArray) (r : (List (List ByteArray))) (h : key_words.f k a0 = some r) : Ct Tryz.prog B 85 [.str a0] (ofL []) (sq e_L r) (ofL []) := by
  refine Ct.of (Y := (fam Tryz.f85 [12] [] [] (fun r : (List (List ByteArray)) => sq e_L r) (fun r => []))) Tryz.func85 rfl Tryz.call85 rfl rfl ?_ r h
  unfold key_words.f
  refine RS.go ?_
  refine RT.call rfl (fun _ h => key_byBytes.ok k  _ h) (fun i => bif Nat.beq i 4 then 9 else i) (LeL.eq rfl) trivial (fun _ => rfl) (fun r1 => ?_)
  refine RS.go ?_
  refine RT.call0 rfl (fun _ h => strings_Split.ok a0 (⟨#[32]⟩ : ByteArray) _ h) (LeL.eq rfl) (fun _ => rfl) (fun r2 => ?_)
  refine RS.go ?_
  refine RT.goto rfl ?_
  refine RS.ghost 4 4 e_L.w (rep e_L []) rfl rfl ?_
  refine RS.weak [(3, .omap 9), (4, .osl 4 e_L.w 0 ([] : List (List ByteArray)).length ([] : List (List ByteArray)).length), (11, sq eS r2), (12, .int .i64 (r2.length : Int)), (13, .int .i64 0)] [(4, bufE e_L ([] : List (List ByteArray))), (9, mapE (KL.ints .u8) (ByteArray.empty : ByteArray) AV.str r1)] ⟨Le.eq (by first | rfl | simp), (by first | exact Le.oslN rfl (by first | rfl | simp) | exact Le.refl _ | exact Le.eq (by first | rfl | simp)), Le.eq (by first | rfl | simp), Le.eq (by first | rfl | simp), Le.eq (by first | rfl | simp), trivial⟩ ⟨⟨_, rfl, LeO.refl _⟩, ⟨_, rfl, LeO.refl _⟩, trivial⟩ rfl (dom0 rfl) ?_
  exact (key_words.loops k).2 r2 (r2.length : Int) 0 [] r1 
/-! ### key_lengths: function 56 -/
mutual
def key_lengths.j20 : Nat → Int → Int → List (List ByteArray) → Int → Int → Int → Int → List Int → Int → Option ((List Int))
  | 0, _, _, _, _, _, _, _, _, _ => Option.none
  | k + 1, a1, a2, x15, x16, x17, x31b, x45c, o7j17, x13j20 => (if o7j17.length + 1 ≤ 549755813888 then key_lengths.l2 k a1 a2 x15 x16 x17 x31b (wrap64 (x45c + 1)) (o7j17 ++ [x13j20]) else Option.none)
def key_lengths.j17 : Nat → Int → Int → List (List ByteArray) → Int → Int → Int → Int → List Int → Option ((List Int))
  | 0, _, _, _, _, _, _, _, _ => Option.none
  | k + 1, a1, a2, x15, x16, x17, x31b, x45c, o7j17 => (if 0 ≤ x45c then (if x45c < ((rdE eS (rdE e_L x15 x17) x31b).size : Int) then (if bt (rdE eS (rdE e_L x15 x17) x31b) x45c = 45 then key_lengths.j20 k a1 a2 x15 x16 x17 x31b x45c o7j17 (wrap64 (a1 * 3)) else key_lengths.j20 k a1 a2 x15 x16 x17 x31b x45c o7j17 a1) else Option.none) else Option.none)
def key_lengths.l2 : Nat → Int → Int → List (List ByteArray) → Int → Int → Int → Int → List Int → Option ((List Int))
  | 0, _, _, _, _, _, _, _, _ => Option.none
  | k + 1, a1, a2, x15, x16, x17, x31b, x45c, o7c => (if x45c < ((rdE eS (rdE e_L x15 x17) x31b).size : Int) then (if x45c > 0 then (if o7c.length + 1 ≤ 549755813888 then key_lengths.j17 k a1 a2 x15 x16 x17 x31b x45c (o7c ++ [a1]) else Option.none) else key_lengths.j17 k a1 a2 x15 x16 x17 x31b x45c o7c) else key_lengths.l1 k a1 a2 x15 x16 x17 (wrap64 (x31b + 1)) o7c)
def key_lengths.j12 : Nat → Int → Int → List (List ByteArray) → Int → Int → Int → List Int → Option ((List Int))
  | 0, _, _, _, _, _, _, _ => Option.none
  | k + 1, a1, a2, x15, x16, x17, x31b, o7j12 => key_lengths.l2 k a1 a2 x15 x16 x17 x31b 0 o7j12
def key_lengths.l1 : Nat → Int → Int → List (List ByteArray) → Int → Int → Int → List Int → Option ((List Int))
  | 0, _, _, _, _, _, _, _ => Option.none
  | k + 1, a1, a2, x15, x16, x17, x31b, o7b => (if x31b < ((rdE e_L x15 x17).length : Int) then (if 0 ≤ x31b then (if x31b < ((rdE e_L x15 x17).length : Int) then (if x31b > 0 then (if o7b.length + 1 ≤ 549755813888 then key_lengths.j12 k a1 a2 x15 x16 x17 x31b (o7b ++ [wrap64 (3 * a2)]) else Option.none) else key_lengths.j12 k a1 a2 x15 x16 x17 x31b o7b) else Option.none) else Option.none) else key_lengths.l0 k a1 a2 x15 x16 (wrap64 (x17 + 1)) o7b)
def key_lengths.j7 : Nat → Int → Int → List (List ByteArray) → Int → Int → List Int → Option ((List Int))
  | 0, _, _, _, _, _, _ => Option.none
  | k + 1, a1, a2, x15, x16, x17, o7j7 => key_lengths.l1 k a1 a2 x15 x16 x17 0 o7j7
def key_lengths.l0 : Nat → Int → Int → List (List ByteArray) → Int → Int → List Int → Option ((List Int))
  | 0, _, _, _, _, _, _ => Option.none
  | k + 1, a1, a2, x15, x16, x17, o7 => (if x17 < x16 then (if 0 ≤ x17 then (if x17 < (x15.length : Int) then (if x17 > 0 then (if o7.length + 1 ≤ 549755813888 then key_lengths.j7 k a1 a2 x15 x16 x17 (o7 ++ [wrap64 (7 * a2)]) else Option.none) else key_lengths.j7 k a1 a2 x15 x16 x17 o7) else Option.none) else Option.none) else Option.some o7)
end
def key_lengths.f (k : Nat) (a0 : ByteArray) (a1 : Int) (a2 : Int) : Option ((List Int)) := ((key_words.f k a0).bind fun r1 => key_lengths.l0 k a1 a2 r1 (r1.length : Int) 0 [])
theorem key_lengths.loops : ∀ k, (∀ (a1 : Int) (a2 : Int) (x15 : List (List ByteArray)) (x16 : Int) (x17 : Int) (x31b : Int) (x45c : Int) (o7j17 : List Int) (x13j20 : Int), RS (fam Tryz.f56 [7, 12, 17, 20] [] [] (fun r : (List Int) => sq eI r) (fun r => [])) (Func.reg Tryz.f56 20) ⟨ofT [(1, .int .i64 a1), (2, .int .i64 a2), (7, .osl 7 eI.w 0 o7j17.length o7j17.length), (11, .str (rdE eS (rdE e_L x15 x17) x31b)), (13, .int .i64 x13j20), (15, sq e_L x15), (16, .int .i64 x16), (17, .int .i64 x17), (29, sq eS (rdE e_L x15 x17)), (30, .int .i64 ((rdE e_L x15 x17).length : Int)), (31, .int .i64 x31b), (44, .int .i64 ((rdE eS (rdE e_L x15 x17) x31b).size : Int)), (45, .int .i64 x45c)], ofL [(7, bufE eI o7j17)]⟩ (key_lengths.j20 k a1 a2 x15 x16 x17 x31b x45c o7j17 x13j20)) ∧ (∀ (a1 : Int) (a2 : Int) (x15 : List (List ByteArray)) (x16 : Int) (x17 : Int) (x31b : Int) (x45c : Int) (o7j17 : List Int), RS (fam Tryz.f56 [7, 12, 17, 20] [] [] (fun r : (List Int) => sq eI r) (fun r => [])) (Func.reg Tryz.f56 17) ⟨ofT [(1, .int .i64 a1), (2, .int .i64 a2), (7, .osl 7 eI.w 0 o7j17.length o7j17.length), (11, .str (rdE eS (rdE e_L x15 x17) x31b)), (12, .int .i64 x45c), (15, sq e_L x15), (16, .int .i64 x16), (17, .int .i64 x17), (29, sq eS (rdE e_L x15 x17)), (30, .int .i64 ((rdE e_L x15 x17).length : Int)), (31, .int .i64 x31b), (44, .int .i64 ((rdE eS (rdE e_L x15 x17) x31b).size : Int)), (45, .int .i64 x45c)], ofL [(7, bufE eI o7j17)]⟩ (key_lengths.j17 k a1 a2 x15 x16 x17 x31b x45c o7j17)) ∧ (∀ (a1 : Int) (a2 : Int) (x15 : List (List ByteArray)) (x16 : Int) (x17 : Int) (x31b : Int) (x45c : Int) (o7c : List Int), RS (fam Tryz.f56 [7, 12, 17, 20] [] [] (fun r : (List Int) => sq eI r) (fun r => [])) (Func.head Tryz.f56 2) ⟨ofT [(1, .int .i64 a1), (2, .int .i64 a2), (7, .osl 7 eI.w 0 o7c.length o7c.length), (11, .str (rdE eS (rdE e_L x15 x17) x31b)), (15, sq e_L x15), (16, .int .i64 x16), (17, .int .i64 x17), (29, sq eS (rdE e_L x15 x17)), (30, .int .i64 ((rdE e_L x15 x17).length : Int)), (31, .int .i64 x31b), (44, .int .i64 ((rdE eS (rdE e_L x15 x17) x31b).size : Int)), (45, .int .i64 x45c)], ofL [(7, bufE eI o7c)]⟩ (key_lengths.l2 k a1 a2 x15 x16 x17 x31b x45c o7c)) ∧ (∀ (a1 : Int) (a2 : Int) (x15 : List (List ByteArray)) (x16 : Int) (x17 : Int) (x31b : Int) (o7j12 : List Int), RS (fam Tryz.f56 [7, 12, 17, 20] [] [] (fun r : (List Int) => sq eI r) (fun r => [])) (Func.reg Tryz.f56 12) ⟨ofT [(1, .int .i64 a1), (2, .int .i64 a2), (7, .osl 7 eI.w 0 o7j12.length o7j12.length), (11, .str (rdE eS (rdE e_L x15 x17) x31b)), (15, sq e_L x15), (16, .int .i64 x16), (17, .int .i64 x17), (29, sq eS (rdE e_L x15 x17)), (30, .int .i64 ((rdE e_L x15 x17).length : Int)), (31, .int .i64 x31b)], ofL [(7, bufE eI o7j12)]⟩ (key_lengths.j12 k a1 a2 x15 x16 x17 x31b o7j12)) ∧ (∀ (a1 : Int) (a2 : Int) (x15 : List (List ByteArray)) (x16 : Int) (x17 : Int) (x31b : Int) (o7b : List Int), RS (fam Tryz.f56 [7, 12, 17, 20] [] [] (fun r : (List Int) => sq eI r) (fun r => [])) (Func.head Tryz.f56 1) ⟨ofT [(1, .int .i64 a1), (2, .int .i64 a2), (7, .osl 7 eI.w 0 o7b.length o7b.length), (15, sq e_L x15), (16, .int .i64 x16), (17, .int .i64 x17), (29, sq eS (rdE e_L x15 x17)), (30, .int .i64 ((rdE e_L x15 x17).length : Int)), (31, .int .i64 x31b)], ofL [(7, bufE eI o7b)]⟩ (key_lengths.l1 k a1 a2 x15 x16 x17 x31b o7b)) ∧ (∀ (a1 : Int) (a2 : Int) (x15 : List (List ByteArray)) (x16 : Int) (x17 : Int) (o7j7 : List Int), RS (fam Tryz.f56 [7, 12, 17, 20] [] [] (fun r : (List Int) => sq eI r) (fun r => [])) (Func.reg Tryz.f56 7) ⟨ofT [(1, .int .i64 a1), (2, .int .i64 a2), (7, .osl 7 eI.w 0 o7j7.length o7j7.length), (9, sq eS (rdE e_L x15 x17)), (15, sq e_L x15), (16, .int .i64 x16), (17, .int .i64 x17)], ofL [(7, bufE eI o7j7)]⟩ (key_lengths.j7 k a1 a2 x15 x16 x17 o7j7)) ∧ (∀ (a1 : Int) (a2 : Int) (x15 : List (List ByteArray)) (x16 : Int) (x17 : Int) (o7 : List Int), RS (fam Tryz.f56 [7, 12, 17, 20] [] [] (fun r : (List Int) => sq eI r) (fun r => [])) (Func.head Tryz.f56 0) ⟨ofT [(1, .int .i64 a1), (2, .int .i64 a2), (7, .osl 7 eI.w 0 o7.length o7.length), (15, sq e_L x15), (16, .int .i64 x16), (17, .int .i64 x17)], ofL [(7, bufE eI o7)]⟩ (key_lengths.l0 k a1 a2 x15 x16 x17 o7))
  | 0 => ⟨by intro _ _ _ _ _ _ _ _ _; simp only [key_lengths.j20]; exact RS.none, by intro _ _ _ _ _ _ _ _; simp only [key_lengths.j17]; exact RS.none, by intro _ _ _ _ _ _ _ _; simp only [key_lengths.l2]; exact RS.none, by intro _ _ _ _ _ _ _; simp only [key_lengths.j12]; exact RS.none, by intro _ _ _ _ _ _ _; simp only [key_lengths.l1]; exact RS.none, by intro _ _ _ _ _ _; simp only [key_lengths.j7]; exact RS.none, by intro _ _ _ _ _ _; simp only [key_lengths.l0]; exact RS.none⟩
  | k + 1 => by
    have ih := key_lengths.loops k
    refine ⟨?_, ?_, ?_, ?_, ?_, ?_, ?_⟩
    · intro a1 a2 x15 x16 x17 x31b x45c o7j17 x13j20
      simp only [key_lengths.j20]
      refine RS.region ?_
      refine RS.go ?_
      refine RT.goto rfl ?_
      refine RS.slot 63 (sq eI [x13j20]) (Le.lit (E := eI) (l := [x13j20]) (cells_of rfl)) ?_
      refine RS.go ?_
      refine RT.req rfl ⟨by first | rfl | simp, by first | exact Nat.le_refl _ | simp⟩ ?_
      refine RT.not rfl (by simp <;> omega) ?_
      refine RT.br rfl (fun c8 => ?_) (fun _ => RT.none)
      refine RT.goto rfl ?_
      refine RS.obj 7 (bufE eI (o7j17 ++ [x13j20])) ⟨_, rfl, LeO.app (l := o7j17) (m := [x13j20]) fun _ _ _ _ => rfl⟩ ?_
      refine RS.slot 64 (.osl 7 eI.w 0 (o7j17 ++ [x13j20]).length (o7j17 ++ [x13j20]).length) (by first | exact Le.oslN rfl (by simp) | exact Le.trans (y := .osl 7 eI.w 0 (o7j17.length + 1) (o7j17.length + 1)) (Le.refl _) (Le.oslN rfl (by simp))) ?_
      refine RS.go ?_
      refine RT.goto rfl ?_
      refine RS.weak [(1, .int .i64 a1), (2, .int .i64 a2), (7, .osl 7 eI.w 0 (o7j17 ++ [x13j20]).length (o7j17 ++ [x13j20]).length), (11, .str (rdE eS (rdE e_L x15 x17) x31b)), (15, sq e_L x15), (16, .int .i64 x16), (17, .int .i64 x17), (29, sq eS (rdE e_L x15 x17)), (30, .int .i64 ((rdE e_L x15 x17).length : Int)), (31, .int .i64 x31b), (44, .int .i64 ((rdE eS (rdE e_L x15 x17) x31b).size : Int)), (45, .int .i64 (wrap64 (x45c + 1)))] [(7, bufE eI (o7j17 ++ [x13j20]))] ⟨Le.eq (by first | rfl | simp), Le.eq (by first | rfl | simp), (by first | exact Le.oslN rfl (by first | rfl | simp) | exact Le.refl _ | exact Le.eq (by first | rfl | simp)), Le.eq (by first | rfl | simp), Le.eq (by first | rfl | simp), Le.eq (by first | rfl | simp), Le.eq (by first | rfl | simp), Le.eq (by first | rfl | simp), Le.eq (by first | rfl | simp), Le.eq (by first | rfl | simp), Le.eq (by first | rfl | simp), Le.eq (by first | rfl | simp), trivial⟩ ⟨⟨_, rfl, LeO.refl _⟩, trivial⟩ rfl (dom0 rfl) ?_
      exact ih.2.2.1 a1 a2 x15 x16 x17 x31b (wrap64 (x45c + 1)) (o7j17 ++ [x13j20]) 
    · intro a1 a2 x15 x16 x17 x31b x45c o7j17
      simp only [key_lengths.j17]
      refine RS.region ?_
      refine RS.go ?_
      refine RT.br rfl (fun c6 => ?_) (fun c6 => RT.none)
      refine RT.br rfl (fun c7 => ?_) (fun c7 => RT.none)
      refine RT.br rfl (fun c9 => ?_) (fun c9 => ?_)
      · refine RT.goto rfl ?_
        refine RS.weak [(1, .int .i64 a1), (2, .int .i64 a2), (7, .osl 7 eI.w 0 o7j17.length o7j17.length), (11, .str (rdE eS (rdE e_L x15 x17) x31b)), (13, .int .i64 (wrap64 (a1 * 3))), (15, sq e_L x15), (16, .int .i64 x16), (17, .int .i64 x17), (29, sq eS (rdE e_L x15 x17)), (30, .int .i64 ((rdE e_L x15 x17).length : Int)), (31, .int .i64 x31b), (44, .int .i64 ((rdE eS (rdE e_L x15 x17) x31b).size : Int)), (45, .int .i64 x45c)] [(7, bufE eI o7j17)] ⟨Le.eq (by first | rfl | simp), Le.eq (by first | rfl | simp), (by first | exact Le.oslN rfl (by first | rfl | simp) | exact Le.refl _ | exact Le.eq (by first | rfl | simp)), Le.eq (by first | rfl | simp), Le.eq (by first | rfl | simp), Le.eq (by first | rfl | simp), Le.eq (by first | rfl | simp), Le.eq (by first | rfl | simp), Le.eq (by first | rfl | simp), Le.eq (by first | rfl | simp), Le.eq (by first | rfl | simp), Le.eq (by first | rfl | simp), Le.eq (by first | rfl | simp), trivial⟩ ⟨⟨_, rfl, LeO.refl _⟩, trivial⟩ rfl (dom0 rfl) ?_
        exact ih.1 a1 a2 x15 x16 x17 x31b x45c o7j17 (wrap64 (a1 * 3)) 
      · refine RT.goto rfl ?_
        refine RS.weak [(1, .int .i64 a1), (2, .int .i64 a2), (7, .osl 7 eI.w 0 o7j17.length o7j17.length), (11, .str (rdE eS (rdE e_L x15 x17) x31b)), (13, .int .i64 a1), (15, sq e_L x15), (16, .int .i64 x16), (17, .int .i64 x17), (29, sq eS (rdE e_L x15 x17)), (30, .int .i64 ((rdE e_L x15 x17).length : Int)), (31, .int .i64 x31b), (44, .int .i64 ((rdE eS (rdE e_L x15 x17) x31b).size : Int)), (45, .int .i64 x45c)] [(7, bufE eI o7j17)] ⟨Le.eq (by first | rfl | simp), Le.eq (by first | rfl | simp), (by first | exact Le.oslN rfl (by first | rfl | simp) | exact Le.refl _ | exact Le.eq (by first | rfl | simp)), Le.eq (by first | rfl | simp), Le.eq (by first | rfl | simp), Le.eq (by first | rfl | simp), Le.eq (by first | rfl | simp), Le.eq (by first | rfl | simp), Le.eq (by first | rfl | simp), Le.eq (by first | rfl | simp), Le.eq (by first | rfl | simp), Le.eq (by first | rfl | simp), Le.eq (by first | rfl | simp), trivial⟩ ⟨⟨_, rfl, LeO.refl _⟩, trivial⟩ rfl (dom0 rfl) ?_
        exact ih.1 a1 a2 x15 x16 x17 x31b x45c o7j17 a1 
    · intro a1 a2 x15 x16 x17 x31b x45c o7c
      simp only [key_lengths.l2]
      refine RS.go ?_
      refine RT.br rfl (fun c12 => ?_) (fun c12 => ?_)
      · refine RT.br rfl (fun c11 => ?_) (fun c11 => ?_)
        · refine RT.goto rfl ?_
          refine RS.slot 52 (sq eI [a1]) (Le.lit (E := eI) (l := [a1]) (cells_of rfl)) ?_
          refine RS.go ?_
          refine RT.req rfl ⟨by first | rfl | simp, by first | exact Nat.le_refl _ | simp⟩ ?_
          refine RT.not rfl (by simp <;> omega) ?_
          refine RT.br rfl (fun c10 => ?_) (fun _ => RT.none)
          refine RT.goto rfl ?_
          refine RS.obj 7 (bufE eI (o7c ++ [a1])) ⟨_, rfl, LeO.app (l := o7c) (m := [a1]) fun _ _ _ _ => rfl⟩ ?_
          refine RS.slot 53 (.osl 7 eI.w 0 (o7c ++ [a1]).length (o7c ++ [a1]).length) (by first | exact Le.oslN rfl (by simp) | exact Le.trans (y := .osl 7 eI.w 0 (o7c.length + 1) (o7c.length + 1)) (Le.refl _) (Le.oslN rfl (by simp))) ?_
          refine RS.go ?_
          refine RT.goto rfl ?_
          refine RS.weak [(1, .int .i64 a1), (2, .int .i64 a2), (7, .osl 7 eI.w 0 (o7c ++ [a1]).length (o7c ++ [a1]).length), (11, .str (rdE eS (rdE e_L x15 x17) x31b)), (12, .int .i64 x45c), (15, sq e_L x15), (16, .int .i64 x16), (17, .int .i64 x17), (29, sq eS (rdE e_L x15 x17)), (30, .int .i64 ((rdE e_L x15 x17).length : Int)), (31, .int .i64 x31b), (44, .int .i64 ((rdE eS (rdE e_L x15 x17) x31b).size : Int)), (45, .int .i64 x45c)] [(7, bufE eI (o7c ++ [a1]))] ⟨Le.eq (by first | rfl | simp), Le.eq (by first | rfl | simp), (by first | exact Le.oslN rfl (by first | rfl | simp) | exact Le.refl _ | exact Le.eq (by first | rfl | simp)), Le.eq (by first | rfl | simp), Le.eq (by first | rfl | simp), Le.eq (by first | rfl | simp), Le.eq (by first | rfl | simp), Le.eq (by first | rfl | simp), Le.eq (by first | rfl | simp), Le.eq (by first | rfl | simp), Le.eq (by first | rfl | simp), Le.eq (by first | rfl | simp), Le.eq (by first | rfl | simp), trivial⟩ ⟨⟨_, rfl, LeO.refl _⟩, trivial⟩ rfl (dom0 rfl) ?_
          exact ih.2.1 a1 a2 x15 x16 x17 x31b x45c (o7c ++ [a1]) 
        · refine RT.goto rfl ?_
          refine RS.weak [(1, .int .i64 a1), (2, .int .i64 a2), (7, .osl 7 eI.w 0 o7c.length o7c.length), (11, .str (rdE eS (rdE e_L x15 x17) x31b)), (12, .int .i64 x45c), (15, sq e_L x15), (16, .int .i64 x16), (17, .int .i64 x17), (29, sq eS (rdE e_L x15 x17)), (30, .int .i64 ((rdE e_L x15 x17).length : Int)), (31, .int .i64 x31b), (44, .int .i64 ((rdE eS (rdE e_L x15 x17) x31b).size : Int)), (45, .int .i64 x45c)] [(7, bufE eI o7c)] ⟨Le.eq (by first | rfl | simp), Le.eq (by first | rfl | simp), (by first | exact Le.oslN rfl (by first | rfl | simp) | exact Le.refl _ | exact Le.eq (by first | rfl | simp)), Le.eq (by first | rfl | simp), Le.eq (by first | rfl | simp), Le.eq (by first | rfl | simp), Le.eq (by first | rfl | simp), Le.eq (by first | rfl | simp), Le.eq (by first | rfl | simp), Le.eq (by first | rfl | simp), Le.eq (by first | rfl | simp), Le.eq (by first | rfl | simp), Le.eq (by first | rfl | simp), trivial⟩ ⟨⟨_, rfl, LeO.refl _⟩, trivial⟩ rfl (dom0 rfl) ?_
          exact ih.2.1 a1 a2 x15 x16 x17 x31b x45c o7c 
      · refine RT.goto rfl ?_
        refine RS.weak [(1, .int .i64 a1), (2, .int .i64 a2), (7, .osl 7 eI.w 0 o7c.length o7c.length), (15, sq e_L x15), (16, .int .i64 x16), (17, .int .i64 x17), (29, sq eS (rdE e_L x15 x17)), (30, .int .i64 ((rdE e_L x15 x17).length : Int)), (31, .int .i64 (wrap64 (x31b + 1)))] [(7, bufE eI o7c)] ⟨Le.eq (by first | rfl | simp), Le.eq (by first | rfl | simp), (by first | exact Le.oslN rfl (by first | rfl | simp) | exact Le.refl _ | exact Le.eq (by first | rfl | simp)), Le.eq (by first | rfl | simp), Le.eq (by first | rfl | simp), Le.eq (by first | rfl | simp), Le.eq (by first | rfl | simp), Le.eq (by first | rfl | simp), Le.eq (by first | rfl | simp), trivial⟩ ⟨⟨_, rfl, LeO.refl _⟩, trivial⟩ rfl (dom0 rfl) ?_
        exact ih.2.2.2.2.1 a1 a2 x15 x16 x17 (wrap64 (x31b + 1)) o7c 
    · intro a1 a2 x15 x16 x17 x31b o7j12
      simp only [key_lengths.j12]
      refine RS.region ?_
      refine RS.go ?_
      refine RT.goto rfl ?_
      refine RS.weak [(1, .int .i64 a1), (2, .int .i64 a2), (7, .osl 7 eI.w 0 o7j12.length o7j12.length), (11, .str (rdE eS (rdE e_L x15 x17) x31b)), (15, sq e_L x15), (16, .int .i64 x16), (17, .int .i64 x17), (29, sq eS (rdE e_L x15 x17)), (30, .int .i64 ((rdE e_L x15 x17).length : Int)), (31, .int .i64 x31b), (44, .int .i64 ((rdE eS (rdE e_L x15 x17) x31b).size : Int)), (45, .int .i64 0)] [(7, bufE eI o7j12)] ⟨Le.eq (by first | rfl | simp), Le.eq (by first | rfl | simp), (by first | exact Le.oslN rfl (by first | rfl | simp) | exact Le.refl _ | exact Le.eq (by first | rfl | simp)), Le.eq (by first | rfl | simp), Le.eq (by first | rfl | simp), Le.eq (by first | rfl | simp), Le.eq (by first | rfl | simp), Le.eq (by first | rfl | simp), Le.eq (by first | rfl | simp), Le.eq (by first | rfl | simp), Le.eq (by first | rfl | simp), Le.eq (by first | rfl | simp), trivial⟩ ⟨⟨_, rfl, LeO.refl _⟩, trivial⟩ rfl (dom0 rfl) ?_
      exact ih.2.2.1 a1 a2 x15 x16 x17 x31b 0 o7j12 
    · intro a1 a2 x15 x16 x17 x31b o7b
      simp only [key_lengths.l1]
      refine RS.go ?_
      refine RT.br rfl (fun c15 => ?_) (fun c15 => ?_)
      · refine RT.br rfl (fun c4 => ?_) (fun c4 => RT.none)
        refine RT.br rfl (fun c5 => ?_) (fun c5 => RT.none)
        refine RT.br rfl (fun c14 => ?_) (fun c14 => ?_)
        · refine RT.goto rfl ?_
          refine RS.slot 41 (sq eI [wrap64 (3 * a2)]) (Le.lit (E := eI) (l := [wrap64 (3 * a2)]) (cells_of rfl)) ?_
          refine RS.go ?_
          refine RT.req rfl ⟨by first | rfl | simp, by first | exact Nat.le_refl _ | simp⟩ ?_
          refine RT.not rfl (by simp <;> omega) ?_
          refine RT.br rfl (fun c13 => ?_) (fun _ => RT.none)
          refine RT.goto rfl ?_
          refine RS.obj 7 (bufE eI (o7b ++ [wrap64 (3 * a2)])) ⟨_, rfl, LeO.app (l := o7b) (m := [wrap64 (3 * a2)]) fun _ _ _ _ => rfl⟩ ?_
          refine RS.slot 42 (.osl 7 eI.w 0 (o7b ++ [wrap64 (3 * a2)]).length (o7b ++ [wrap64 (3 * a2)]).length) (by first | exact Le.oslN rfl (by simp) | exact Le.trans (y := .osl 7 eI.w 0 (o7b.length + 1) (o7b.length + 1)) (Le.refl _) (Le.oslN rfl (by simp))) ?_
          refine RS.go ?_
          refine RT.goto rfl ?_
          refine RS.weak [(1, .int .i64 a1), (2, .int .i64 a2), (7, .osl 7 eI.w 0 (o7b ++ [wrap64 (3 * a2)]).length (o7b ++ [wrap64 (3 * a2)]).length), (11, .str (rdE eS (rdE e_L x15 x17) x31b)), (15, sq e_L x15), (16, .int .i64 x16), (17, .int .i64 x17), (29, sq eS (rdE e_L x15 x17)), (30, .int .i64 ((rdE e_L x15 x17).length : Int)), (31, .int .i64 x31b)] [(7, bufE eI (o7b ++ [wrap64 (3 * a2)]))] ⟨Le.eq (by first | rfl | simp), Le.eq (by first | rfl | simp), (by first | exact Le.oslN rfl (by first | rfl | simp) | exact Le.refl _ | exact Le.eq (by first | rfl | simp)), Le.eq (by first | rfl | simp), Le.eq (by first | rfl | simp), Le.eq (by first | rfl | simp), Le.eq (by first | rfl | simp), Le.eq (by first | rfl | simp), Le.eq (by first | rfl | simp), Le.eq (by first | rfl | simp), trivial⟩ ⟨⟨_, rfl, LeO.refl _⟩, trivial⟩ rfl (dom0 rfl) ?_
          exact ih.2.2.2.1 a1 a2 x15 x16 x17 x31b (o7b ++ [wrap64 (3 * a2)]) 
        · refine RT.goto rfl ?_
          refine RS.weak [(1, .int .i64 a1), (2, .int .i64 a2), (7, .osl 7 eI.w 0 o7b.length o7b.length), (11, .str (rdE eS (rdE e_L x15 x17) x31b)), (15, sq e_L x15), (16, .int .i64 x16), (17, .int .i64 x17), (29, sq eS (rdE e_L x15 x17)), (30, .int .i64 ((rdE e_L x15 x17).length : Int)), (31, .int .i64 x31b)] [(7, bufE eI o7b)] ⟨Le.eq (by first | rfl | simp), Le.eq (by first | rfl | simp), (by first | exact Le.oslN rfl (by first | rfl | simp) | exact Le.refl _ | exact Le.eq (by first | rfl | simp)), Le.eq (by first | rfl | simp), Le.eq (by first | rfl | simp), Le.eq (by first | rfl | simp), Le.eq (by first | rfl | simp), Le.eq (by first | rfl | simp), Le.eq (by first | rfl | simp), Le.eq (by first | rfl | simp), trivial⟩ ⟨⟨_, rfl, LeO.refl _⟩, trivial⟩ rfl (dom0 rfl) ?_
          exact ih.2.2.2.1 a1 a2 x15 x16 x17 x31b o7b 
      · refine RT.goto rfl ?_
        refine RS.weak [(1, .int .i64 a1), (2, .int .i64 a2), (7, .osl 7 eI.w 0 o7b.length o7b.length), (15, sq e_L x15), (16, .int .i64 x16), (17, .int .i64 (wrap64 (x17 + 1)))] [(7, bufE eI o7b)] ⟨Le.eq (by first | rfl | simp), Le.eq (by first | rfl | simp), (by first | exact Le.oslN rfl (by first | rfl | simp) | exact Le.refl _ | exact Le.eq (by first | rfl | simp)), Le.eq (by first | rfl | simp), Le.eq (by first | rfl | simp), Le.eq (by first | rfl | simp), trivial⟩ ⟨⟨_, rfl, LeO.refl _⟩, trivial⟩ rfl (dom0 rfl) ?_
        exact ih.2.2.2.2.2.2 a1 a2 x15 x16 (wrap64 (x17 + 1)) o7b 
    · intro a1 a2 x15 x16 x17 o7j7
      simp only [key_lengths.j7]
      refine RS.region ?_
      refine RS.go ?_
      refine RT.goto rfl ?_
      refine RS.weak [(1, .int .i64 a1), (2, .int .i64 a2), (7, .osl 7 eI.w 0 o7j7.length o7j7.length), (15, sq e_L x15), (16, .int .i64 x16), (17, .int .i64 x17), (29, sq eS (rdE e_L x15 x17)), (30, .int .i64 ((rdE e_L x15 x17).length : Int)), (31, .int .i64 0)] [(7, bufE eI o7j7)] ⟨Le.eq (by first | rfl | simp), Le.eq (by first | rfl | simp), (by first | exact Le.oslN rfl (by first | rfl | simp) | exact Le.refl _ | exact Le.eq (by first | rfl | simp)), Le.eq (by first | rfl | simp), Le.eq (by first | rfl | simp), Le.eq (by first | rfl | simp), Le.eq (by first | rfl | simp), Le.eq (by first | rfl | simp), Le.eq (by first | rfl | simp), trivial⟩ ⟨⟨_, rfl, LeO.refl _⟩, trivial⟩ rfl (dom0 rfl) ?_
      exact ih.2.2.2.2.1 a1 a2 x15 x16 x17 0 o7j7 
    · intro a1 a2 x15 x16 x17 o7
      simp only [key_lengths.l0]
      refine RS.go ?_
      refine RT.br rfl (fun c18 => ?_) (fun c18 => ?_)
      · refine RT.br rfl (fun c2 => ?_) (fun c2 => RT.none)
        refine RT.br rfl (fun c3 => ?_) (fun c3 => RT.none)
        refine RT.br rfl (fun c17 => ?_) (fun c17 => ?_)
        · refine RT.goto rfl ?_
          refine RS.slot 27 (sq eI [wrap64 (7 * a2)]) (Le.lit (E := eI) (l := [wrap64 (7 * a2)]) (cells_of rfl)) ?_
          refine RS.go ?_
          refine RT.req rfl ⟨by first | rfl | simp, by first | exact Nat.le_refl _ | simp⟩ ?_
          refine RT.not rfl (by simp <;> omega) ?_
          refine RT.br rfl (fun c16 => ?_) (fun _ => RT.none)
          refine RT.goto rfl ?_
          refine RS.obj 7 (bufE eI (o7 ++ [wrap64 (7 * a2)])) ⟨_, rfl, LeO.app (l := o7) (m := [wrap64 (7 * a2)]) fun _ _ _ _ => rfl⟩ ?_
          refine RS.slot 28 (.osl 7 eI.w 0 (o7 ++ [wrap64 (7 * a2)]).length (o7 ++ [wrap64 (7 * a2)]).length) (by first | exact Le.oslN rfl (by simp) | exact Le.trans (y := .osl 7 eI.w 0 (o7.length + 1) (o7.length + 1)) (Le.refl _) (Le.oslN rfl (by simp))) ?_
          refine RS.go ?_
          refine RT.goto rfl ?_
          refine RS.weak [(1, .int .i64 a1), (2, .int .i64 a2), (7, .osl 7 eI.w 0 (o7 ++ [wrap64 (7 * a2)]).length (o7 ++ [wrap64 (7 * a2)]).length), (9, sq eS (rdE e_L x15 x17)), (15, sq e_L x15), (16, .int .i64 x16), (17, .int .i64 x17)] [(7, bufE eI (o7 ++ [wrap64 (7 * a2)]))] ⟨Le.eq (by first | rfl | simp), Le.eq (by first | rfl | simp), (by first | exact Le.oslN rfl (by first | rfl | simp) | exact Le.refl _ | exact Le.eq (by first | rfl | simp)), Le.eq (by first | rfl | simp), Le.eq (by first | rfl | simp), Le.eq (by first | rfl | simp), Le.eq (by first | rfl | simp), trivial⟩ ⟨⟨_, rfl, LeO.refl _⟩, trivial⟩ rfl (dom0 rfl) ?_
          exact ih.2.2.2.2.2.1 a1 a2 x15 x16 x17 (o7 ++ [wrap64 (7 * a2)]) 
        · refine RT.goto rfl ?_
          refine RS.weak [(1, .int .i64 a1), (2, .int .i64 a2), (7, .osl 7 eI.w 0 o7.length o7.length), (9, sq eS (rdE e_L x15 x17)), (15, sq e_L x15), (16, .int .i64 x16), (17, .int .i64 x17)] [(7, bufE eI o7)] ⟨Le.eq (by first | rfl | simp), Le.eq (by first | rfl | simp), (by first | exact Le.oslN rfl (by first | rfl | simp) | exact Le.refl _ | exact Le.eq (by first | rfl | simp)), Le.eq (by first | rfl | simp), Le.eq (by first | rfl | simp), Le.eq (by first | rfl | simp), Le.eq (by first | rfl | simp), trivial⟩ ⟨⟨_, rfl, LeO.refl _⟩, trivial⟩ rfl (dom0 rfl) ?_
          exact ih.2.2.2.2.2.1 a1 a2 x15 x16 x17 o7 
      · refine RT.freeze 7 _ _ _ [(6, sq eI o7)] [] rfl rfl ⟨.inr ⟨_, rfl, by first | exact Nat.le_refl _ | simp, rfl⟩, trivial⟩ trivial rfl (dom0 rfl) ?_
        exact RT.done rfl rfl (Le.refl _) trivial rfl (dom0 rfl)
theorem key_lengths.ok (k : Nat) (a0 : ByteArray) (a1 : Int) (a2 : Int) (r : (List Int)) (h : key_lengths.f k a0 a1 a2 = some r) : Ct Tryz.prog B 56 [.str a0, .int .i64 a1, .int .i64 a2] (ofL []) (sq eI r) (ofL []) := by
  refine Ct.of (Y := (fam Tryz.f56 [7, 12, 17, 20] [] [] (fun r : (List Int) => sq eI r) (fun r => []))) Tryz.func56 rfl Tryz.call56 rfl rfl ?_ r h
  unfold key_lengths.f
  refine RS.go ?_
  refine RT.call0 rfl (fun _ h => key_words.ok k a0 _ h) (LeL.eq rfl) (fun _ => rfl) (fun r1 => ?_)
  refine RS.go ?_
  refine RT.goto rfl ?_
  refine RS.ghost 7 7 eI.w (rep eI []) rfl rfl ?_
  refine RS.weak [(1, .int .i64 a1), (2, .int .i64 a2), (7, .osl 7 eI.w 0 ([] : List Int).length ([] : List Int).length), (15, sq e_L r1), (16, .int .i64 (r1.length : Int)), (17, .int .i64 0)] [(7, bufE eI ([] : List Int))] ⟨Le.eq (by first | rfl | simp), Le.eq (by first | rfl | simp), (by first | exact Le.oslN rfl (by first | rfl | simp) | exact Le.refl _ | exact Le.eq (by first | rfl | simp)), Le.eq (by first | rfl | simp), Le.eq (by first | rfl | simp), Le.eq (by first | rfl | simp), trivial⟩ ⟨⟨_, rfl, LeO.refl _⟩, trivial⟩ rfl (dom0 rfl) ?_
  exact (key_lengths.loops k).2.2.2.2.2.2 a1 a2 r1 (r1.length : Int) 0 [] 
/-! ### key_Units: function 29 -/
def key_Units.l0 : Nat → Int → List Int → Int → Int → Option (Int × Int)
  | 0, _, _, _, _ => Option.none
  | k + 1, x5, x14, x15, x16 => (if x16 < x15 then (if 0 ≤ x16 then (if x16 < (x14.length : Int) then key_Units.l0 k (wrap64 (x5 + (rd x14 x16))) x14 x15 (wrap64 (x16 + 1)) else Option.none) else Option.none) else Option.some (x5, 0))
def key_Units.f (k : Nat) (a0 : ByteArray) : Option (Int × Int) := ((key_CheckSaid.f k a0).bind fun r1 => (if r1 = 0 then ((key_lengths.f k a0 1 1).bind fun r2 => key_Units.l0 k 0 r2 (r2.length : Int) 0) else Option.some (0, r1)))
theorem key_Units.loops : ∀ k, (∀ (x5 : Int) (x14 : List Int) (x15 : Int) (x16 : Int), RS (fam Tryz.f29 [] [] [] (fun r : Int × Int => .tup [.int .i64 r.1, .int .i64 r.2]) (fun r => [])) (Func.head Tryz.f29 0) ⟨ofT [(5, .int .i64 x5), (14, sq eI x14), (15, .int .i64 x15), (16, .int .i64 x16)], ofL []⟩ (key_Units.l0 k x5 x14 x15 x16))
  | 0 => by intro _ _ _ _; simp only [key_Units.l0]; exact RS.none
  | k + 1 => by
    have ih := key_Units.loops k
    · intro x5 x14 x15 x16
      simp only [key_Units.l0]
      refine RS.go ?_
      refine RT.br rfl (fun c5 => ?_) (fun c5 => ?_)
      · refine RT.br rfl (fun c3 => ?_) (fun c3 => RT.none)
        refine RT.br rfl (fun c4 => ?_) (fun c4 => RT.none)
        refine RT.goto rfl ?_
        refine RS.weak [(5, .int .i64 (wrap64 (x5 + (rd x14 x16)))), (14, sq eI x14), (15, .int .i64 x15), (16, .int .i64 (wrap64 (x16 + 1)))] [] ⟨Le.eq (by first | rfl | simp), Le.eq (by first | rfl | simp), Le.eq (by first | rfl | simp), Le.eq (by first | rfl | simp), trivial⟩ trivial rfl (dom0 rfl) ?_
        exact ih (wrap64 (x5 + (rd x14 x16))) x14 x15 (wrap64 (x16 + 1)) 
      · exact RT.done rfl rfl (Le.tup (LeL.cons (Le.refl _) (LeL.cons (Le.refl _) (LeL.nil)))) trivial rfl (dom0 rfl)
theorem key_Units.ok (k : Nat) (a0 : ByteArray) (r : Int × Int) (h : key_Units.f k a0 = some r) : Ct Tryz.prog B 29 [.str a0] (ofL []) (.tup [.int .i64 r.1, .int .i64 r.2]) (ofL []) := by
  refine Ct.of (Y := (fam Tryz.f29 [] [] [] (fun r : Int × Int => .tup [.int .i64 r.1, .int .i64 r.2]) (fun r => []))) Tryz.func29 rfl Tryz.call29 rfl rfl ?_ r h
  unfold key_Units.f
  refine RS.go ?_
  refine RT.call0 rfl (fun _ h => key_CheckSaid.ok k a0 _ h) (LeL.eq rfl) (fun _ => rfl) (fun r1 => ?_)
  refine RS.go ?_
  refine RT.brN rfl (fun c6 => ?_) (fun c6 => ?_)
  · refine RT.call0 rfl (fun _ h => key_lengths.ok k a0 1 1 _ h) (LeL.eq rfl) (fun _ => rfl) (fun r2 => ?_)
    refine RS.go ?_
    refine RT.goto rfl ?_
    refine RS.weak [(5, .int .i64 0), (14, sq eI r2), (15, .int .i64 (r2.length : Int)), (16, .int .i64 0)] [] ⟨Le.eq (by first | rfl | simp), Le.eq (by first | rfl | simp), Le.eq (by first | rfl | simp), Le.eq (by first | rfl | simp), trivial⟩ trivial rfl (dom0 rfl) ?_
    exact key_Units.loops k 0 r2 (r2.length : Int) 0 
  · exact RT.done rfl rfl (Le.tup (LeL.cons (Le.refl _) (LeL.cons (Le.refl _) (LeL.nil)))) trivial rfl (dom0 rfl)
/-! ### kit_IsTime: function 161 -/
def kit_IsTime.f (a0_0 : Int) (a0_1 : Int) : Option (Bool) := (if a0_0 ≥ 0 then (if a0_0 < a0_1 then Option.some (decide (a0_1 ≤ 345686400000)) else Option.some false) else Option.some false)
theorem kit_IsTime.ok (a0_0 : Int) (a0_1 : Int) (r : Bool) (h : kit_IsTime.f a0_0 a0_1 = some r) : Ct Tryz.prog B 161 [.agg [.int .i64 a0_0, .int .i64 a0_1]] (ofL []) (.bool r) (ofL []) := by
  refine Ct.of (Y := (fam Tryz.f161 [] [] [] (fun r : Bool => .bool r) (fun r => []))) Tryz.func161 rfl Tryz.call161 rfl rfl ?_ r h
  unfold kit_IsTime.f
  refine RS.go ?_
  refine RT.br rfl (fun c2 => ?_) (fun c2 => ?_)
  · refine RT.brT rfl ?_
    refine RT.brT rfl ?_
    refine RT.brT rfl ?_
    refine RT.brT rfl ?_
    refine RT.brT rfl ?_
    refine RT.br rfl (fun c1 => ?_) (fun c1 => ?_)
    · refine RT.brT rfl ?_
      refine RT.brT rfl ?_
      refine RT.brT rfl ?_
      exact RT.done rfl rfl (Le.refl _) trivial rfl (dom0 rfl)
    · refine RT.brF rfl ?_
      refine RT.brF rfl ?_
      refine RT.brF rfl ?_
      exact RT.done rfl rfl (Le.refl _) trivial rfl (dom0 rfl)
  · refine RT.brF rfl ?_
    refine RT.brF rfl ?_
    refine RT.brF rfl ?_
    refine RT.brF rfl ?_
    refine RT.brF rfl ?_
    refine RT.brF rfl ?_
    refine RT.brF rfl ?_
    refine RT.brF rfl ?_
    refine RT.brF rfl ?_
    exact RT.done rfl rfl (Le.refl _) trivial rfl (dom0 rfl)
/-! ### kit_Has: function 162 -/
def kit_Has.f (a0_0 : Int) (a0_1 : Int) (a1 : Int) : Option (Bool) := (if a0_0 ≤ a1 then Option.some (decide (a1 < a0_1)) else Option.some false)
theorem kit_Has.ok (a0_0 : Int) (a0_1 : Int) (a1 : Int) (r : Bool) (h : kit_Has.f a0_0 a0_1 a1 = some r) : Ct Tryz.prog B 162 [.agg [.int .i64 a0_0, .int .i64 a0_1], .int .i64 a1] (ofL []) (.bool r) (ofL []) := by
  refine Ct.of (Y := (fam Tryz.f162 [] [] [] (fun r : Bool => .bool r) (fun r => []))) Tryz.func162 rfl Tryz.call162 rfl rfl ?_ r h
  unfold kit_Has.f
  refine RS.go ?_
  refine RT.br rfl (fun c1 => ?_) (fun c1 => ?_)
  · refine RT.brT rfl ?_
    refine RT.brT rfl ?_
    refine RT.brT rfl ?_
    refine RT.brT rfl ?_
    exact RT.done rfl rfl (Le.refl _) trivial rfl (dom0 rfl)
  · refine RT.brF rfl ?_
    refine RT.brF rfl ?_
    refine RT.brF rfl ?_
    refine RT.brF rfl ?_
    exact RT.done rfl rfl (Le.refl _) trivial rfl (dom0 rfl)
/-! ### rate_CheckTimes: function 119 -/
def rate_CheckTimes.l0 : Nat → List Int → Int → Int → Int → Option (Int)
  | 0, _, _, _, _ => Option.none
  | k + 1, l0, a1_0, a1_1, x15 => (if x15 < (l0.length : Int) then (if 0 ≤ x15 then (if x15 < (l0.length : Int) then ((kit_Has.f a1_0 a1_1 (rd l0 x15)).bind fun r4 => (if r4 = true then (if x15 > 0 then (if 0 ≤ wrap64 (x15 - 1) then (if wrap64 (x15 - 1) < (l0.length : Int) then (if (rd l0 x15) < (rd l0 (wrap64 (x15 - 1))) then Option.some 7 else rate_CheckTimes.l0 k l0 a1_0 a1_1 (wrap64 (x15 + 1))) else Option.none) else Option.none) else rate_CheckTimes.l0 k l0 a1_0 a1_1 (wrap64 (x15 + 1))) else Option.some 1)) else Option.none) else Option.none) else Option.some 0)
def rate_CheckTimes.f (k : Nat) (l0 : List Int) (a1_0 : Int) (a1_1 : Int) : Option (Int) := ((kit_IsTime.f a1_0 a1_1).bind fun r1 => (if r1 = true then (if (l0.length : Int) > 2000 then Option.some 2 else rate_CheckTimes.l0 k l0 a1_0 a1_1 0) else Option.some 1))
theorem rate_CheckTimes.loops : ∀ k, (∀ (l0 : List Int) (a1_0 : Int) (a1_1 : Int) (x15 : Int), RS (fam Tryz.f119 [] [] [] (fun r : Int => .int .i64 r) (fun r => [])) (Func.head Tryz.f119 0) ⟨ofT [(0, sq eI l0), (3, .ref 3 0 0 0 2), (13, sq eI l0), (14, .int .i64 (l0.length : Int)), (15, .int .i64 x15)], ofL [(3, .box [.int .i64 a1_0, .int .i64 a1_1])]⟩ (rate_CheckTimes.l0 k l0 a1_0 a1_1 x15))
  | 0 => by intro _ _ _ _; simp only [rate_CheckTimes.l0]; exact RS.none
  | k + 1 => by
    have ih := rate_CheckTimes.loops k
    · intro l0 a1_0 a1_1 x15
      simp only [rate_CheckTimes.l0]
      refine RS.go ?_
      refine RT.br rfl (fun c10 => ?_) (fun c10 => ?_)
      · refine RT.br rfl (fun c2 => ?_) (fun c2 => RT.none)
        refine RT.br rfl (fun c3 => ?_) (fun c3 => RT.none)
        refine RT.call0 rfl (fun _ h => kit_Has.ok a1_0 a1_1 (rd l0 x15) _ h) (LeL.eq rfl) (fun _ => rfl) (fun r4 => ?_)
        refine RS.go ?_
        refine RT.brBN rfl (fun c9 => ?_) (fun c9 => ?_)
        · refine RT.br rfl (fun c8 => ?_) (fun c8 => ?_)
          · refine RT.brT rfl ?_
            refine RT.brT rfl ?_
            refine RT.brT rfl ?_
            refine RT.brT rfl ?_
            refine RT.br rfl (fun c5 => ?_) (fun c5 => RT.none)
            refine RT.br rfl (fun c6 => ?_) (fun c6 => RT.none)
            refine RT.brT rfl ?_
            refine RT.brT rfl ?_
            refine RT.brT rfl ?_
            refine RT.br rfl (fun c7 => ?_) (fun c7 => ?_)
            · exact RT.done rfl rfl (Le.refl _) trivial rfl (dom0 rfl)
            · refine RT.goto rfl ?_
              refine RS.weak [(0, sq eI l0), (3, .ref 3 0 0 0 2), (13, sq eI l0), (14, .int .i64 (l0.length : Int)), (15, .int .i64 (wrap64 (x15 + 1)))] [(3, .box [.int .i64 a1_0, .int .i64 a1_1])] ⟨Le.eq (by first | rfl | simp), Le.eq (by first | rfl | simp), Le.eq (by first | rfl | simp), Le.eq (by first | rfl | simp), Le.eq (by first | rfl | simp), trivial⟩ ⟨⟨_, rfl, LeO.refl _⟩, trivial⟩ rfl (dom0 rfl) ?_
              exact ih l0 a1_0 a1_1 (wrap64 (x15 + 1)) 
          · refine RT.brF rfl ?_
            refine RT.brF rfl ?_
            refine RT.brF rfl ?_
            refine RT.brF rfl ?_
            refine RT.brF rfl ?_
            refine RT.brF rfl ?_
            refine RT.brF rfl ?_
            refine RT.brF rfl ?_
            refine RT.goto rfl ?_
            refine RS.weak [(0, sq eI l0), (3, .ref 3 0 0 0 2), (13, sq eI l0), (14, .int .i64 (l0.length : Int)), (15, .int .i64 (wrap64 (x15 + 1)))] [(3, .box [.int .i64 a1_0, .int .i64 a1_1])] ⟨Le.eq (by first | rfl | simp), Le.eq (by first | rfl | simp), Le.eq (by first | rfl | simp), Le.eq (by first | rfl | simp), Le.eq (by first | rfl | simp), trivial⟩ ⟨⟨_, rfl, LeO.refl _⟩, trivial⟩ rfl (dom0 rfl) ?_
            exact ih l0 a1_0 a1_1 (wrap64 (x15 + 1)) 
        · exact RT.done rfl rfl (Le.refl _) trivial rfl (dom0 rfl)
      · exact RT.done rfl rfl (Le.refl _) trivial rfl (dom0 rfl)
theorem rate_CheckTimes.ok (k : Nat) (l0 : List Int) (a1_0 : Int) (a1_1 : Int) (r : Int) (h : rate_CheckTimes.f k l0 a1_0 a1_1 = some r) : Ct Tryz.prog B 119 [sq eI l0, .agg [.int .i64 a1_0, .int .i64 a1_1]] (ofL []) (.int .i64 r) (ofL []) := by
  refine Ct.of (Y := (fam Tryz.f119 [] [] [] (fun r : Int => .int .i64 r) (fun r => []))) Tryz.func119 rfl Tryz.call119 rfl rfl ?_ r h
  unfold rate_CheckTimes.f
  refine RS.go ?_
  refine RT.call0 rfl (fun _ h => kit_IsTime.ok a1_0 a1_1 _ h) (LeL.eq rfl) (fun _ => rfl) (fun r1 => ?_)
  refine RS.go ?_
  refine RT.brBN rfl (fun c12 => ?_) (fun c12 => ?_)
  · refine RT.br rfl (fun c11 => ?_) (fun c11 => ?_)
    · exact RT.done rfl rfl (Le.refl _) trivial rfl (dom0 rfl)
    · refine RT.goto rfl ?_
      refine RS.weak [(0, sq eI l0), (3, .ref 3 0 0 0 2), (13, sq eI l0), (14, .int .i64 (l0.length : Int)), (15, .int .i64 0)] [(3, .box [.int .i64 a1_0, .int .i64 a1_1])] ⟨Le.eq (by first | rfl | simp), Le.eq (by first | rfl | simp), Le.eq (by first | rfl | simp), Le.eq (by first | rfl | simp), Le.eq (by first | rfl | simp), trivial⟩ ⟨⟨_, rfl, LeO.refl _⟩, trivial⟩ rfl (dom0 rfl) ?_
      exact rate_CheckTimes.loops k l0 a1_0 a1_1 0 
  · exact RT.done rfl rfl (Le.refl _) trivial rfl (dom0 rfl)
/-! ### rate_isLong: function 120 -/
def rate_isLong.f (a0 : Int) : Option (Bool) := ((kit_Outside.f a0 60000 86400000).bind fun r1 => Option.some (!r1))
theorem rate_isLong.ok (a0 : Int) (r : Bool) (h : rate_isLong.f a0 = some r) : Ct Tryz.prog B 120 [.int .i64 a0] (ofL []) (.bool r) (ofL []) := by
  refine Ct.of (Y := (fam Tryz.f120 [] [] [] (fun r : Bool => .bool r) (fun r => []))) Tryz.func120 rfl Tryz.call120 rfl rfl ?_ r h
  unfold rate_isLong.f
  refine RS.go ?_
  refine RT.call0 rfl (fun _ h => kit_Outside.ok a0 60000 86400000 _ h) (LeL.eq rfl) (fun _ => rfl) (fun r1 => ?_)
  refine RS.go ?_
  exact RT.done rfl rfl (Le.refl _) trivial rfl (dom0 rfl)
/-! ### cmp_isNaN_int: function 256 -/
def cmp_isNaN_int.f (a0 : Int) : Option (Bool) := Option.some (!decide (a0 = a0))
theorem cmp_isNaN_int.ok (a0 : Int) (r : Bool) (h : cmp_isNaN_int.f a0 = some r) : Ct Tryz.prog B 256 [.int .i64 a0] (ofL []) (.bool r) (ofL []) := by
  refine Ct.of (Y := (fam Tryz.f256 [] [] [] (fun r : Bool => .bool r) (fun r => []))) Tryz.func256 rfl Tryz.call256 rfl rfl ?_ r h
  unfold cmp_isNaN_int.f
  refine RS.go ?_
  exact RT.done rfl rfl (Le.refl _) trivial rfl (dom0 rfl)
/-! ### cmp_Less_int: function 241 -/
def cmp_Less_int.f (a0 : Int) (a1 : Int) : Option (Bool) := ((cmp_isNaN_int.f a0).bind fun r1 => (if r1 = true then ((cmp_isNaN_int.f a1).bind fun r2 => (if r2 = true then Option.some (decide (a0 < a1)) else Option.some true)) else Option.some (decide (a0 < a1))))
theorem cmp_Less_int.ok (a0 : Int) (a1 : Int) (r : Bool) (h : cmp_Less_int.f a0 a1 = some r) : Ct Tryz.prog B 241 [.int .i64 a0, .int .i64 a1] (ofL []) (.bool r) (ofL []) := by
  refine Ct.of (Y := (fam Tryz.f241 [] [] [] (fun r : Bool => .bool r) (fun r => []))) Tryz.func241 rfl Tryz.call241 rfl rfl ?_ r h
  unfold cmp_Less_int.f
  refine RS.go ?_
  refine RT.call0 rfl (fun _ h => cmp_isNaN_int.ok a0 _ h) (LeL.eq rfl) (fun _ => rfl) (fun r1 => ?_)
  refine RS.go ?_
  refine RT.brB rfl (fun c4 => ?_) (fun c4 => ?_)
  · refine RT.brT rfl ?_
    refine RT.call0 rfl (fun _ h => cmp_isNaN_int.ok a1 _ h) (LeL.eq rfl) (fun _ => rfl) (fun r2 => ?_)
    refine RS.go ?_
    refine RT.brT rfl ?_
    refine RT.brT rfl ?_
    refine RT.brBN rfl (fun c3 => ?_) (fun c3 => ?_)
    · refine RT.brF rfl ?_
      refine RT.brF rfl ?_
      refine RT.brF rfl ?_
      exact RT.done rfl rfl (Le.refl _) trivial rfl (dom0 rfl)
    · refine RT.brT rfl ?_
      refine RT.brT rfl ?_
      refine RT.brT rfl ?_
      exact RT.done rfl rfl (Le.refl _) trivial rfl (dom0 rfl)
  · refine RT.brF rfl ?_
    refine RT.brF rfl ?_
    refine RT.brF rfl ?_
    refine RT.brF rfl ?_
    refine RT.brF rfl ?_
    refine RT.brF rfl ?_
    refine RT.brF rfl ?_
    exact RT.done rfl rfl (Le.refl _) trivial rfl (dom0 rfl)
/-! ### slices_isNaN_int: function 242 -/
def slices_isNaN_int.f (a0 : Int) : Option (Bool) := Option.some (!decide (a0 = a0))
theorem slices_isNaN_int.ok (a0 : Int) (r : Bool) (h : slices_isNaN_int.f a0 = some r) : Ct Tryz.prog B 242 [.int .i64 a0] (ofL []) (.bool r) (ofL []) := by
  refine Ct.of (Y := (fam Tryz.f242 [] [] [] (fun r : Bool => .bool r) (fun r => []))) Tryz.func242 rfl Tryz.call242 rfl rfl ?_ r h
  unfold slices_isNaN_int.f
  refine RS.go ?_
  exact RT.done rfl rfl (Le.refl _) trivial rfl (dom0 rfl)
/-! ### slices_BinarySearch_int_int: function 213 -/
def slices_BinarySearch_int_int.l0 : Nat → List Int → Int → Int → Int → Option (Int × Bool)
  | 0, _, _, _, _ => Option.none
  | k + 1, l0, a1, x7, x8 => (if x7 < x8 then (if 0 ≤ wrap64 (Int.fdiv (IntKind.u64.wrap (wrap64 (x7 + x8))) (2 ^ (min (Int.toNat 1) 64))) then (if wrap64 (Int.fdiv (IntKind.u64.wrap (wrap64 (x7 + x8))) (2 ^ (min (Int.toNat 1) 64))) < (l0.length : Int) then ((cmp_Less_int.f (rd l0 (wrap64 (Int.fdiv (IntKind.u64.wrap (wrap64 (x7 + x8))) (2 ^ (min (Int.toNat 1) 64))))) a1).bind fun r3 => (if r3 = true then slices_BinarySearch_int_int.l0 k l0 a1 (wrap64 ((wrap64 (Int.fdiv (IntKind.u64.wrap (wrap64 (x7 + x8))) (2 ^ (min (Int.toNat 1) 64)))) + 1)) x8 else slices_BinarySearch_int_int.l0 k l0 a1 x7 (wrap64 (Int.fdiv (IntKind.u64.wrap (wrap64 (x7 + x8))) (2 ^ (min (Int.toNat 1) 64)))))) else Option.none) else Option.none) else (if x7 < (l0.length : Int) then (if 0 ≤ x7 then (if x7 < (l0.length : Int) then (if (rd l0 x7) = a1 then Option.some (x7, true) else (if 0 ≤ x7 then (if x7 < (l0.length : Int) then ((slices_isNaN_int.f (rd l0 x7)).bind fun r9 => (if r9 = true then ((slices_isNaN_int.f a1).bind fun r10 => Option.some (x7, r10)) else Option.some (x7, false))) else Option.none) else Option.none)) else Option.none) else Option.none) else Option.some (x7, false)))
def slices_BinarySearch_int_int.f (k : Nat) (l0 : List Int) (a1 : Int) : Option (Int × Bool) := slices_BinarySearch_int_int.l0 k l0 a1 0 (l0.length : Int)
theorem slices_BinarySearch_int_int.loops : ∀ k, (∀ (l0 : List Int) (a1 : Int) (x7 : Int) (x8 : Int), RS (fam Tryz.f213 [] [] [] (fun r : Int × Bool => .tup [.int .i64 r.1, .bool r.2]) (fun r => [])) (Func.head Tryz.f213 0) ⟨ofT [(0, sq eI l0), (1, .int .i64 a1), (6, .int .i64 (l0.length : Int)), (7, .int .i64 x7), (8, .int .i64 x8)], ofL []⟩ (slices_BinarySearch_int_int.l0 k l0 a1 x7 x8))
  | 0 => by intro _ _ _ _; simp only [slices_BinarySearch_int_int.l0]; exact RS.none
  | k + 1 => by
    have ih := slices_BinarySearch_int_int.loops k
    · intro l0 a1 x7 x8
      simp only [slices_BinarySearch_int_int.l0]
      refine RS.go ?_
      refine RT.br rfl (fun c14 => ?_) (fun c14 => ?_)
      · refine RT.brF rfl ?_
        refine RT.br rfl (fun c1 => ?_) (fun c1 => RT.none)
        refine RT.br rfl (fun c2 => ?_) (fun c2 => RT.none)
        refine RT.call0 rfl (fun _ h => cmp_Less_int.ok (rd l0 (wrap64 (Int.fdiv (IntKind.u64.wrap (wrap64 (x7 + x8))) (2 ^ (min (Int.toNat 1) 64))))) a1 _ h) (LeL.eq rfl) (fun _ => rfl) (fun r3 => ?_)
        refine RS.go ?_
        refine RT.brB rfl (fun c4 => ?_) (fun c4 => ?_)
        · refine RT.goto rfl ?_
          refine RS.weak [(0, sq eI l0), (1, .int .i64 a1), (6, .int .i64 (l0.length : Int)), (7, .int .i64 (wrap64 ((wrap64 (Int.fdiv (IntKind.u64.wrap (wrap64 (x7 + x8))) (2 ^ (min (Int.toNat 1) 64)))) + 1))), (8, .int .i64 x8)] [] ⟨Le.eq (by first | rfl | simp), Le.eq (by first | rfl | simp), Le.eq (by first | rfl | simp), Le.eq (by first | rfl | simp), Le.eq (by first | rfl | simp), trivial⟩ trivial rfl (dom0 rfl) ?_
          exact ih l0 a1 (wrap64 ((wrap64 (Int.fdiv (IntKind.u64.wrap (wrap64 (x7 + x8))) (2 ^ (min (Int.toNat 1) 64)))) + 1)) x8 
        · refine RT.goto rfl ?_
          refine RS.weak [(0, sq eI l0), (1, .int .i64 a1), (6, .int .i64 (l0.length : Int)), (7, .int .i64 x7), (8, .int .i64 (wrap64 (Int.fdiv (IntKind.u64.wrap (wrap64 (x7 + x8))) (2 ^ (min (Int.toNat 1) 64)))))] [] ⟨Le.eq (by first | rfl | simp), Le.eq (by first | rfl | simp), Le.eq (by first | rfl | simp), Le.eq (by first | rfl | simp), Le.eq (by first | rfl | simp), trivial⟩ trivial rfl (dom0 rfl) ?_
          exact ih l0 a1 x7 (wrap64 (Int.fdiv (IntKind.u64.wrap (wrap64 (x7 + x8))) (2 ^ (min (Int.toNat 1) 64)))) 
      · refine RT.br rfl (fun c13 => ?_) (fun c13 => ?_)
        · refine RT.brT rfl ?_
          refine RT.brT rfl ?_
          refine RT.br rfl (fun c5 => ?_) (fun c5 => RT.none)
          refine RT.br rfl (fun c6 => ?_) (fun c6 => RT.none)
          refine RT.brT rfl ?_
          refine RT.brT rfl ?_
          refine RT.brT rfl ?_
          refine RT.brT rfl ?_
          refine RT.br rfl (fun c12 => ?_) (fun c12 => ?_)
          · refine RT.brT rfl ?_
            refine RT.brT rfl ?_
            refine RT.brT rfl ?_
            refine RT.brT rfl ?_
            refine RT.brT rfl ?_
            refine RT.brT rfl ?_
            refine RT.brT rfl ?_
            refine RT.brT rfl ?_
            refine RT.brT rfl ?_
            exact RT.done rfl rfl (Le.tup (LeL.cons (Le.refl _) (LeL.cons (Le.refl _) (LeL.nil)))) trivial rfl (dom0 rfl)
          · refine RT.brF rfl ?_
            refine RT.brF rfl ?_
            refine RT.br rfl (fun c7 => ?_) (fun c7 => RT.none)
            refine RT.br rfl (fun c8 => ?_) (fun c8 => RT.none)
            refine RT.brF rfl ?_
            refine RT.brF rfl ?_
            refine RT.call0 rfl (fun _ h => slices_isNaN_int.ok (rd l0 x7) _ h) (LeL.eq rfl) (fun _ => rfl) (fun r9 => ?_)
            refine RS.go ?_
            refine RT.brF rfl ?_
            refine RT.brB rfl (fun c11 => ?_) (fun c11 => ?_)
            · refine RT.brT rfl ?_
              refine RT.call0 rfl (fun _ h => slices_isNaN_int.ok a1 _ h) (LeL.eq rfl) (fun _ => rfl) (fun r10 => ?_)
              refine RS.go ?_
              refine RT.brF rfl ?_
              refine RT.brT rfl ?_
              refine RT.brT rfl ?_
              refine RT.brF rfl ?_
              refine RT.brT rfl ?_
              exact RT.done rfl rfl (Le.tup (LeL.cons (Le.refl _) (LeL.cons (Le.refl _) (LeL.nil)))) trivial rfl (dom0 rfl)
            · refine RT.brF rfl ?_
              refine RT.brF rfl ?_
              refine RT.brF rfl ?_
              refine RT.brT rfl ?_
              refine RT.brF rfl ?_
              refine RT.brT rfl ?_
              exact RT.done rfl rfl (Le.tup (LeL.cons (Le.refl _) (LeL.cons (Le.refl _) (LeL.nil)))) trivial rfl (dom0 rfl)
        · refine RT.brF rfl ?_
          refine RT.brF rfl ?_
          refine RT.brF rfl ?_
          refine RT.brF rfl ?_
          refine RT.brF rfl ?_
          refine RT.brF rfl ?_
          refine RT.brF rfl ?_
          refine RT.brF rfl ?_
          exact RT.done rfl rfl (Le.tup (LeL.cons (Le.refl _) (LeL.cons (Le.refl _) (LeL.nil)))) trivial rfl (dom0 rfl)
theorem slices_BinarySearch_int_int.ok (k : Nat) (l0 : List Int) (a1 : Int) (r : Int × Bool) (h : slices_BinarySearch_int_int.f k l0 a1 = some r) : Ct Tryz.prog B 213 [sq eI l0, .int .i64 a1] (ofL []) (.tup [.int .i64 r.1, .bool r.2]) (ofL []) := by
  refine Ct.of (Y := (fam Tryz.f213 [] [] [] (fun r : Int × Bool => .tup [.int .i64 r.1, .bool r.2]) (fun r => []))) Tryz.func213 rfl Tryz.call213 rfl rfl ?_ r h
  unfold slices_BinarySearch_int_int.f
  refine RS.go ?_
  refine RT.goto rfl ?_
  refine RS.weak [(0, sq eI l0), (1, .int .i64 a1), (6, .int .i64 (l0.length : Int)), (7, .int .i64 0), (8, .int .i64 (l0.length : Int))] [] ⟨Le.eq (by first | rfl | simp), Le.eq (by first | rfl | simp), Le.eq (by first | rfl | simp), Le.eq (by first | rfl | simp), Le.eq (by first | rfl | simp), trivial⟩ trivial rfl (dom0 rfl) ?_
  exact slices_BinarySearch_int_int.loops k l0 a1 0 (l0.length : Int) 
/-! ### rate_before: function 163 -/
def rate_before.f (k : Nat) (l0 : List Int) (a1 : Int) : Option (Int) := ((slices_BinarySearch_int_int.f k l0 a1).bind fun r1 => Option.some r1.1)
theorem rate_before.ok (k : Nat) (l0 : List Int) (a1 : Int) (r : Int) (h : rate_before.f k l0 a1 = some r) : Ct Tryz.prog B 163 [sq eI l0, .int .i64 a1] (ofL []) (.int .i64 r) (ofL []) := by
  refine Ct.of (Y := (fam Tryz.f163 [] [] [] (fun r : Int => .int .i64 r) (fun r => []))) Tryz.func163 rfl Tryz.call163 rfl rfl ?_ r h
  unfold rate_before.f
  refine RS.go ?_
  refine RT.call0 rfl (fun _ h => slices_BinarySearch_int_int.ok k l0 a1 _ h) (LeL.eq rfl) (fun _ => rfl) (fun r1 => ?_)
  refine RS.go ?_
  exact RT.done rfl rfl (Le.refl _) trivial rfl (dom0 rfl)
/-! ### rate_in: function 121 -/
def rate_in.k0 : List DK := [⟨[14], [], [4], []⟩, ⟨[13], [], [14], []⟩, ⟨[8, 12], [], [13], []⟩, ⟨[9, 11], [], [12], []⟩, ⟨[10], [3], [11], []⟩, ⟨[3], [3], [10], []⟩, ⟨[0], [], [9], []⟩, ⟨[5, 7], [], [8], []⟩, ⟨[6], [3], [7], []⟩, ⟨[3], [3], [6], []⟩, ⟨[0], [], [5], []⟩]
def rate_in.k1 : List Nat := [0, 0, 2, 7, 0, 0, 32, 127, 255, 511, 1023]
def rate_in.f (k : Nat) (l0 : List Int) (a1_0 : Int) (a1_1 : Int) : Option (Int) := ((rate_before.f k l0 a1_1).bind fun r1 => ((rate_before.f k l0 a1_0).bind fun r2 => Option.some (mx 0 (wrap64 (r1 - r2)))))
theorem rate_in.ok (k : Nat) (l0 : List Int) (a1_0 : Int) (a1_1 : Int) (r : Int) (h : rate_in.f k l0 a1_0 a1_1 = some r) : Ct Tryz.prog B 121 [sq eI l0, .agg [.int .i64 a1_0, .int .i64 a1_1]] (ofL []) (.int .i64 r) (ofL []) := by
  refine Ct.of (Y := (fam Tryz.f121 [] [] [] (fun r : Int => .int .i64 r) (fun r => []))) Tryz.func121 rfl Tryz.call121 rfl rfl ?_ r h
  unfold rate_in.f
  refine RS.go ?_
  refine RT.goto rfl ?_
  refine RS.draw rfl ?_
  refine RD.call (CR := []) (CW := (fun r => [])) rfl (fun _ h => rate_before.ok k l0 a1_1 _ h) (fun i => i) trivial (fun _ => rfl) ⟨_, _, _, _, rfl, rfl, rfl⟩ (LeL.eq rfl) trivial (fun _ => rfl) (fun r1 => ?_)
  refine RD.call (CR := []) (CW := (fun r => [])) rfl (fun _ h => rate_before.ok k l0 a1_0 _ h) (fun i => i) trivial (fun _ => rfl) ⟨_, _, _, _, rfl, rfl, rfl⟩ (LeL.eq rfl) trivial (fun _ => rfl) (fun r2 => ?_)
  refine RD.fin rate_in.k0 rate_in.k1 rfl rfl (by decide +kernel) ?_
  refine RS.go ?_
  exact RT.done rfl rfl (Le.refl _) trivial rfl (dom0 rfl)
/-! ### rate_Best: function 62 -/
def rate_Best.k0 : List DK := [⟨[34], [], [11], []⟩, ⟨[25], [], [10], []⟩, ⟨[26, 33], [], [34], []⟩, ⟨[28, 32], [], [33], []⟩, ⟨[30, 31], [], [32], []⟩, ⟨[2], [], [31], []⟩, ⟨[29], [4], [30], []⟩, ⟨[4], [4], [29], []⟩, ⟨[27], [4], [28], []⟩, ⟨[4], [4], [27], []⟩, ⟨[0], [], [26], []⟩, ⟨[24], [4], [25], []⟩, ⟨[4], [4], [24], []⟩]
def rate_Best.k1 : List Nat := [0, 1, 0, 0, 8, 0, 32, 0, 224, 504, 1020, 2047, 4095]
mutual
def rate_Best.j13 : Nat → List Int → Int → Int → Int → Int → Option (Int × Int × Int)
  | 0, _, _, _, _, _ => Option.none
  | k + 1, l0, a2, x37, x10j13, x11j13 => rate_Best.l0 k l0 a2 x10j13 x11j13 (wrap64 (x37 + 1))
def rate_Best.l0 : Nat → List Int → Int → Int → Int → Int → Option (Int × Int × Int)
  | 0, _, _, _, _, _ => Option.none
  | k + 1, l0, a2, x10, x11, x37 => (if x37 < (l0.length : Int) then (if 0 ≤ x37 then (if x37 < (l0.length : Int) then ((rate_in.f k l0 (rd l0 x37) (wrap64 ((rd l0 x37) + a2))).bind fun r6 => (if r6 > x11 then rate_Best.j13 k l0 a2 x37 (rd l0 x37) r6 else rate_Best.j13 k l0 a2 x37 x10 x11)) else Option.none) else Option.none) else Option.some (x10, x11, 0))
end
def rate_Best.f (k : Nat) (l0 : List Int) (a1_0 : Int) (a1_1 : Int) (a2 : Int) : Option (Int × Int × Int) := ((rate_CheckTimes.f k l0 a1_0 a1_1).bind fun r1 => (if r1 = 0 then ((rate_isLong.f a2).bind fun r2 => (if r2 = true then ((rate_in.f k l0 a1_0 (wrap64 (a1_0 + a2))).bind fun r3 => rate_Best.l0 k l0 a2 a1_0 r3 0) else Option.some (0, 0, 1))) else Option.some (0, 0, r1)))
theorem rate_Best.loops : ∀ k, (∀ (l0 : List Int) (a2 : Int) (x37 : Int) (x10j13 : Int) (x11j13 : Int), RS (fam Tryz.f62 [13] [] [] (fun r : Int × Int × Int => .tup [.int .i64 r.1, .int .i64 r.2.1, .int .i64 r.2.2]) (fun r => [])) (Func.reg Tryz.f62 13) ⟨ofT [(0, sq eI l0), (2, .int .i64 a2), (10, .int .i64 x10j13), (11, .int .i64 x11j13), (35, sq eI l0), (36, .int .i64 (l0.length : Int)), (37, .int .i64 x37)], ofL []⟩ (rate_Best.j13 k l0 a2 x37 x10j13 x11j13)) ∧ (∀ (l0 : List Int) (a2 : Int) (x10 : Int) (x11 : Int) (x37 : Int), RS (fam Tryz.f62 [13] [] [] (fun r : Int × Int × Int => .tup [.int .i64 r.1, .int .i64 r.2.1, .int .i64 r.2.2]) (fun r => [])) (Func.head Tryz.f62 0) ⟨ofT [(0, sq eI l0), (2, .int .i64 a2), (10, .int .i64 x10), (11, .int .i64 x11), (35, sq eI l0), (36, .int .i64 (l0.length : Int)), (37, .int .i64 x37)], ofL []⟩ (rate_Best.l0 k l0 a2 x10 x11 x37))
  | 0 => ⟨by intro _ _ _ _ _; simp only [rate_Best.j13]; exact RS.none, by intro _ _ _ _ _; simp only [rate_Best.l0]; exact RS.none⟩
  | k + 1 => by
    have ih := rate_Best.loops k
    refine ⟨?_, ?_⟩
    · intro l0 a2 x37 x10j13 x11j13
      simp only [rate_Best.j13]
      refine RS.region ?_
      refine RS.go ?_
      refine RT.goto rfl ?_
      refine RS.weak [(0, sq eI l0), (2, .int .i64 a2), (10, .int .i64 x10j13), (11, .int .i64 x11j13), (35, sq eI l0), (36, .int .i64 (l0.length : Int)), (37, .int .i64 (wrap64 (x37 + 1)))] [] ⟨Le.eq (by first | rfl | simp), Le.eq (by first | rfl | simp), Le.eq (by first | rfl | simp), Le.eq (by first | rfl | simp), Le.eq (by first | rfl | simp), Le.eq (by first | rfl | simp), Le.eq (by first | rfl | simp), trivial⟩ trivial rfl (dom0 rfl) ?_
      exact ih.2 l0 a2 x10j13 x11j13 (wrap64 (x37 + 1)) 
    · intro l0 a2 x10 x11 x37
      simp only [rate_Best.l0]
      refine RS.go ?_
      refine RT.br rfl (fun c8 => ?_) (fun c8 => ?_)
      · refine RT.br rfl (fun c4 => ?_) (fun c4 => RT.none)
        refine RT.br rfl (fun c5 => ?_) (fun c5 => RT.none)
        refine RT.call0 rfl (fun _ h => rate_in.ok k l0 (rd l0 x37) (wrap64 ((rd l0 x37) + a2)) _ h) (LeL.eq rfl) (fun _ => rfl) (fun r6 => ?_)
        refine RS.go ?_
        refine RT.br rfl (fun c7 => ?_) (fun c7 => ?_)
        · refine RT.goto rfl ?_
          refine RS.weak [(0, sq eI l0), (2, .int .i64 a2), (10, .int .i64 (rd l0 x37)), (11, .int .i64 r6), (35, sq eI l0), (36, .int .i64 (l0.length : Int)), (37, .int .i64 x37)] [] ⟨Le.eq (by first | rfl | simp), Le.eq (by first | rfl | simp), Le.eq (by first | rfl | simp), Le.eq (by first | rfl | simp), Le.eq (by first | rfl | simp), Le.eq (by first | rfl | simp), Le.eq (by first | rfl | simp), trivial⟩ trivial rfl (dom0 rfl) ?_
          exact ih.1 l0 a2 x37 (rd l0 x37) r6 
        · refine RT.goto rfl ?_
          refine RS.weak [(0, sq eI l0), (2, .int .i64 a2), (10, .int .i64 x10), (11, .int .i64 x11), (35, sq eI l0), (36, .int .i64 (l0.length : Int)), (37, .int .i64 x37)] [] ⟨Le.eq (by first | rfl | simp), Le.eq (by first | rfl | simp), Le.eq (by first | rfl | simp), Le.eq (by first | rfl | simp), Le.eq (by first | rfl | simp), Le.eq (by first | rfl | simp), Le.eq (by first | rfl | simp), trivial⟩ trivial rfl (dom0 rfl) ?_
          exact ih.1 l0 a2 x37 x10 x11 
      · exact RT.done rfl rfl (Le.tup (LeL.cons (Le.refl _) (LeL.cons (Le.refl _) (LeL.cons (Le.refl _) (LeL.nil))))) trivial rfl (dom0 rfl)
theorem rate_Best.ok (k : Nat) (l0 : List Int) (a1_0 : Int) (a1_1 : Int) (a2 : Int) (r : Int × Int × Int) (h : rate_Best.f k l0 a1_0 a1_1 a2 = some r) : Ct Tryz.prog B 62 [sq eI l0, .agg [.int .i64 a1_0, .int .i64 a1_1], .int .i64 a2] (ofL []) (.tup [.int .i64 r.1, .int .i64 r.2.1, .int .i64 r.2.2]) (ofL []) := by
  refine Ct.of (Y := (fam Tryz.f62 [13] [] [] (fun r : Int × Int × Int => .tup [.int .i64 r.1, .int .i64 r.2.1, .int .i64 r.2.2]) (fun r => []))) Tryz.func62 rfl Tryz.call62 rfl rfl ?_ r h
  unfold rate_Best.f
  refine RS.go ?_
  refine RT.call0 rfl (fun _ h => rate_CheckTimes.ok k l0 a1_0 a1_1 _ h) (LeL.eq rfl) (fun _ => rfl) (fun r1 => ?_)
  refine RS.go ?_
  refine RT.brN rfl (fun c10 => ?_) (fun c10 => ?_)
  · refine RT.call0 rfl (fun _ h => rate_isLong.ok a2 _ h) (LeL.eq rfl) (fun _ => rfl) (fun r2 => ?_)
    refine RS.go ?_
    refine RT.brBN rfl (fun c9 => ?_) (fun c9 => ?_)
    · refine RT.goto rfl ?_
      refine RS.draw rfl ?_
      refine RD.call (CR := []) (CW := (fun r => [])) rfl (fun _ h => rate_in.ok k l0 a1_0 (wrap64 (a1_0 + a2)) _ h) (fun i => i) trivial (fun _ => rfl) ⟨_, _, _, _, rfl, rfl, rfl⟩ (LeL.eq rfl) trivial (fun _ => rfl) (fun r3 => ?_)
      refine RD.fin rate_Best.k0 rate_Best.k1 rfl rfl (by decide +kernel) ?_
      refine RS.go ?_
      refine RT.goto rfl ?_
      refine RS.weak [(0, sq eI l0), (2, .int .i64 a2), (10, .int .i64 a1_0), (11, .int .i64 r3), (35, sq eI l0), (36, .int .i64 (l0.length : Int)), (37, .int .i64 0)] [] ⟨Le.eq (by first | rfl | simp), Le.eq (by first | rfl | simp), Le.eq (by first | rfl | simp), Le.eq (by first | rfl | simp), Le.eq (by first | rfl | simp), Le.eq (by first | rfl | simp), Le.eq (by first | rfl | simp), trivial⟩ trivial rfl (dom0 rfl) ?_
      exact (rate_Best.loops k).2 l0 a2 a1_0 r3 0 
    · exact RT.done rfl rfl (Le.tup (LeL.cons (Le.refl _) (LeL.cons (Le.refl _) (LeL.cons (Le.refl _) (LeL.nil))))) trivial rfl (dom0 rfl)
  · exact RT.done rfl rfl (Le.tup (LeL.cons (Le.refl _) (LeL.cons (Le.refl _) (LeL.cons (Le.refl _) (LeL.nil))))) trivial rfl (dom0 rfl)
/-! ### pilekeep1_ready: function 24 -/
def pilekeep1_ready.f (k : Nat) : Option (Bool) := ((call_Apart.f k (⟨#[111, 104, 50, 97, 98, 99, 47, 52]⟩ : ByteArray)).bind fun r1 => ((place_Cosine.f k 216000).bind fun r2 => ((key_Units.f k (⟨#[112, 97, 114, 105, 115]⟩ : ByteArray)).bind fun r3 => ((rate_Best.f k [0, 600000, 1200000] 0 3600000 900000).bind fun r4 => (if r1.2.2.2.2.2 = 0 then (if r1.2.1 = (⟨#[111, 104, 50]⟩ : ByteArray) then (if r2.2 = 0 then (if r2.1 = 500000 then (if r3.2 = 0 then (if r3.1 = 43 then (if r4.2.2 = 0 then (if r4.1 = 0 then Option.some (decide (r4.2.1 = 2)) else Option.some false) else Option.some false) else Option.some false) else Option.some false) else Option.some false) else Option.some false) else Option.some false) else Option.some false)))))
theorem pilekeep1_ready.ok (k : Nat) (r : Bool) (h : pilekeep1_ready.f k  = some r) : Ct Tryz.prog B 24 [] (ofL []) (.bool r) (ofL []) := by
  refine Ct.of (Y := (fam Tryz.f24 [] [] [] (fun r : Bool => .bool r) (fun r => []))) Tryz.func24 rfl Tryz.call24 rfl rfl ?_ r h
  unfold pilekeep1_ready.f
  refine RS.go ?_
  refine RT.call0 rfl (fun _ h => call_Apart.ok k (⟨#[111, 104, 50, 97, 98, 99, 47, 52]⟩ : ByteArray) _ h) (LeL.eq rfl) (fun _ => rfl) (fun r1 => ?_)
  refine RS.go ?_
  refine RT.call0 rfl (fun _ h => place_Cosine.ok k 216000 _ h) (LeL.eq rfl) (fun _ => rfl) (fun r2 => ?_)
  refine RS.go ?_
  refine RT.call0 rfl (fun _ h => key_Units.ok k (⟨#[112, 97, 114, 105, 115]⟩ : ByteArray) _ h) (LeL.eq rfl) (fun _ => rfl) (fun r3 => ?_)
  refine RS.go ?_
  refine RT.goto rfl ?_
  refine RS.slot 23 (sq eI [0, 600000, 1200000]) (Le.lit (E := eI) (l := [0, 600000, 1200000]) (cells_of rfl)) ?_
  refine RS.go ?_
  refine RT.call0 rfl (fun _ h => rate_Best.ok k [0, 600000, 1200000] 0 3600000 900000 _ h) (LeL.eq rfl) (fun _ => rfl) (fun r4 => ?_)
  refine RS.go ?_
  refine RT.br rfl (fun c12 => ?_) (fun c12 => ?_)
  · refine RT.brT rfl ?_
    refine RT.brT rfl ?_
    refine RT.brT rfl ?_
    refine RT.br rfl (fun c11 => ?_) (fun c11 => ?_)
    · refine RT.brT rfl ?_
      refine RT.brT rfl ?_
      refine RT.br rfl (fun c10 => ?_) (fun c10 => ?_)
      · refine RT.brT rfl ?_
        refine RT.brT rfl ?_
        refine RT.br rfl (fun c9 => ?_) (fun c9 => ?_)
        · refine RT.brT rfl ?_
          refine RT.brT rfl ?_
          refine RT.br rfl (fun c8 => ?_) (fun c8 => ?_)
          · refine RT.brT rfl ?_
            refine RT.brT rfl ?_
            refine RT.br rfl (fun c7 => ?_) (fun c7 => ?_)
            · refine RT.brT rfl ?_
              refine RT.brT rfl ?_
              refine RT.br rfl (fun c6 => ?_) (fun c6 => ?_)
              · refine RT.brT rfl ?_
                refine RT.brT rfl ?_
                refine RT.br rfl (fun c5 => ?_) (fun c5 => ?_)
                · refine RT.brT rfl ?_
                  refine RT.brT rfl ?_
                  exact RT.done rfl rfl (Le.refl _) trivial rfl (dom0 rfl)
                · refine RT.brF rfl ?_
                  refine RT.brF rfl ?_
                  exact RT.done rfl rfl (Le.refl _) trivial rfl (dom0 rfl)
              · refine RT.brF rfl ?_
                refine RT.brF rfl ?_
                refine RT.brF rfl ?_
                refine RT.brF rfl ?_
                refine RT.brF rfl ?_
                exact RT.done rfl rfl (Le.refl _) trivial rfl (dom0 rfl)
            · refine RT.brF rfl ?_
              refine RT.brF rfl ?_
              refine RT.brF rfl ?_
              refine RT.brF rfl ?_
              refine RT.brF rfl ?_
              refine RT.brF rfl ?_
              refine RT.brF rfl ?_
              refine RT.brF rfl ?_
              exact RT.done rfl rfl (Le.refl _) trivial rfl (dom0 rfl)
          · refine RT.brF rfl ?_
            refine RT.brF rfl ?_
            refine RT.brF rfl ?_
            refine RT.brF rfl ?_
            refine RT.brF rfl ?_
            refine RT.brF rfl ?_
            refine RT.brF rfl ?_
            refine RT.brF rfl ?_
            refine RT.brF rfl ?_
            refine RT.brF rfl ?_
            refine RT.brF rfl ?_
            exact RT.done rfl rfl (Le.refl _) trivial rfl (dom0 rfl)
        · refine RT.brF rfl ?_
          refine RT.brF rfl ?_
          refine RT.brF rfl ?_
          refine RT.brF rfl ?_
          refine RT.brF rfl ?_
          refine RT.brF rfl ?_
          refine RT.brF rfl ?_
          refine RT.brF rfl ?_
          refine RT.brF rfl ?_
          refine RT.brF rfl ?_
          refine RT.brF rfl ?_
          refine RT.brF rfl ?_
          refine RT.brF rfl ?_
          refine RT.brF rfl ?_
          exact RT.done rfl rfl (Le.refl _) trivial rfl (dom0 rfl)
      · refine RT.brF rfl ?_
        refine RT.brF rfl ?_
        refine RT.brF rfl ?_
        refine RT.brF rfl ?_
        refine RT.brF rfl ?_
        refine RT.brF rfl ?_
        refine RT.brF rfl ?_
        refine RT.brF rfl ?_
        refine RT.brF rfl ?_
        refine RT.brF rfl ?_
        refine RT.brF rfl ?_
        refine RT.brF rfl ?_
        refine RT.brF rfl ?_
        refine RT.brF rfl ?_
        refine RT.brF rfl ?_
        refine RT.brF rfl ?_
        refine RT.brF rfl ?_
        exact RT.done rfl rfl (Le.refl _) trivial rfl (dom0 rfl)
    · refine RT.brF rfl ?_
      refine RT.brF rfl ?_
      refine RT.brF rfl ?_
      refine RT.brF rfl ?_
      refine RT.brF rfl ?_
      refine RT.brF rfl ?_
      refine RT.brF rfl ?_
      refine RT.brF rfl ?_
      refine RT.brF rfl ?_
      refine RT.brF rfl ?_
      refine RT.brF rfl ?_
      refine RT.brF rfl ?_
      refine RT.brF rfl ?_
      refine RT.brF rfl ?_
      refine RT.brF rfl ?_
      refine RT.brF rfl ?_
      refine RT.brF rfl ?_
      refine RT.brF rfl ?_
      refine RT.brF rfl ?_
      refine RT.brF rfl ?_
      exact RT.done rfl rfl (Le.refl _) trivial rfl (dom0 rfl)
  · refine RT.brF rfl ?_
    refine RT.brF rfl ?_
    refine RT.brF rfl ?_
    refine RT.brF rfl ?_
    refine RT.brF rfl ?_
    refine RT.brF rfl ?_
    refine RT.brF rfl ?_
    refine RT.brF rfl ?_
    refine RT.brF rfl ?_
    refine RT.brF rfl ?_
    refine RT.brF rfl ?_
    refine RT.brF rfl ?_
    refine RT.brF rfl ?_
    refine RT.brF rfl ?_
    refine RT.brF rfl ?_
    refine RT.brF rfl ?_
    refine RT.brF rfl ?_
    refine RT.brF rfl ?_
    refine RT.brF rfl ?_
    refine RT.brF rfl ?_
    refine RT.brF rfl ?_
    refine RT.brF rfl ?_
    refine RT.brF rfl ?_
    refine RT.brF rfl ?_
    exact RT.done rfl rfl (Le.refl _) trivial rfl (dom0 rfl)
/-! ### pilekeep1_KeysStay: function 4 -/
mutual
def pilekeep1_KeysStay.l2 : Nat → List Int → List Int → Int → Int → List (ByteArray × ByteArray) → Option (Bool)
  | 0, _, _, _, _, _ => Option.none
  | k + 1, x5, x6, x74c, x75c, o72c => (if x75c < x74c then (if 0 ≤ x75c then (if x75c < (o72c.length : Int) then pilekeep1_KeysStay.l2 k x5 x6 x74c (wrap64 (x75c + 1)) (o72c.set (x75c).toNat ((rdE e_SS o72c x75c).1, (⟨#[115, 112, 111, 105, 108, 116]⟩ : ByteArray))) else Option.none) else Option.none) else ((slices_Equal_int_int.f k x5 x6).bind fun r13 => (if r13 = true then ((key_Codes.f k ).bind fun r14 => ((pileref1_CodesOf.f k ).bind fun r15 => ((slices_Equal_api_Signed_api_Signed.f k r14 r15).bind fun r16 => (if r16 = true then ((pilekeep1_ready.f k ).bind fun r17 => Option.some r17) else Option.some false)))) else Option.some false)))
def pilekeep1_KeysStay.l1 : Nat → List Int → List Int → List Int → Int → List Int → Option (Bool)
  | 0, _, _, _, _, _ => Option.none
  | k + 1, x5, x6, o35, x65b, o35b => (if x65b < (o35.length : Int) then (if 0 ≤ x65b then (if x65b < (o35b.length : Int) then pilekeep1_KeysStay.l1 k x5 x6 o35 (wrap64 (x65b + 1)) (o35b.set (x65b).toNat 777) else Option.none) else Option.none) else ((key_Codes.f k ).bind fun r10 => pilekeep1_KeysStay.l2 k x5 x6 (r10.length : Int) 0 r10))
def pilekeep1_KeysStay.l0 : Nat → List Int → List Int → Int → Int → List Int → List Int → List Int → Option (Bool)
  | 0, _, _, _, _, _, _, _ => Option.none
  | k + 1, x5, x6, x55, x56, t30, o30, o35 => (if x56 < x55 then (if 0 ≤ x56 then (if x56 < (o30.length : Int) then pilekeep1_KeysStay.l0 k x5 x6 x55 (wrap64 (x56 + 1)) t30 (o30.set (x56).toNat 777) o35 else Option.none) else Option.none) else pilekeep1_KeysStay.l1 k x5 x6 o35 0 o35)
end
def pilekeep1_KeysStay.f (k : Nat) (l0 : List Int) : Option (Bool) := ((pilemake_Stream_RightKeyed.f k l0 0).bind fun r1 => ((pilemake_Stream_RightKeyed.f k l0 0).bind fun r2 => ((key_Clean.f k r1.1 1).bind fun r3 => ((key_Uneven.f k r1.1 60).bind fun r4 => ((key_Hear.f k r1.1).bind fun r5 => (if r3.2.2 = 0 then (if r4.2 = 0 then (if r5.2.2.2.2 = 0 then pilekeep1_KeysStay.l0 k r1.1 r2.1 (r3.1.length : Int) 0 r3.2.1 r3.1 r4.1 else Option.some false) else Option.some false) else Option.some false))))))
theorem pilekeep1_KeysStay.loops : ∀ k, (∀ (x5 : List Int) (x6 : List Int) (x74c : Int) (x75c : Int) (o72c : List (ByteArray × ByteArray)), RS (fam Tryz.f4 [] [] [] (fun r : Bool => .bool r) (fun r => [])) (Func.head Tryz.f4 2) ⟨ofT [(5, sq eI x5), (6, sq eI x6), (16, .osl 72 e_SS.w 0 o72c.length o72c.length), (74, .int .i64 x74c), (75, .int .i64 x75c)], ofL [(72, bufE e_SS o72c)]⟩ (pilekeep1_KeysStay.l2 k x5 x6 x74c x75c o72c)) ∧ (∀ (x5 : List Int) (x6 : List Int) (o35 : List Int) (x65b : Int) (o35b : List Int), RS (fam Tryz.f4 [] [] [] (fun r : Bool => .bool r) (fun r => [])) (Func.head Tryz.f4 1) ⟨ofT [(5, sq eI x5), (6, sq eI x6), (9, .osl 35 eI.w 0 o35b.length o35b.length), (64, .int .i64 (o35.length : Int)), (65, .int .i64 x65b)], ofL [(35, bufE eI o35b)]⟩ (pilekeep1_KeysStay.l1 k x5 x6 o35 x65b o35b)) ∧ (∀ (x5 : List Int) (x6 : List Int) (x55 : Int) (x56 : Int) (t30 : List Int) (o30 : List Int) (o35 : List Int), RS (fam Tryz.f4 [] [] [] (fun r : Bool => .bool r) (fun r => [])) (Func.head Tryz.f4 0) ⟨ofT [(5, sq eI x5), (6, sq eI x6), (7, .osl 30 eI.w 0 o30.length (o30 ++ t30).length), (9, .osl 35 eI.w 0 o35.length o35.length), (55, .int .i64 x55), (56, .int .i64 x56)], ofL [(30, bufE eI (o30 ++ t30)), (35, bufE eI o35)]⟩ (pilekeep1_KeysStay.l0 k x5 x6 x55 x56 t30 o30 o35))
  | 0 => ⟨by intro _ _ _ _ _; simp only [pilekeep1_KeysStay.l2]; exact RS.none, by intro _ _ _ _ _; simp only [pilekeep1_KeysStay.l1]; exact RS.none, by intro _ _ _ _ _ _ _; simp only [pilekeep1_KeysStay.l0]; exact RS.none⟩
  | k + 1 => by
    have ih := pilekeep1_KeysStay.loops k
    refine ⟨?_, ?_, ?_⟩
    · intro x5 x6 x74c x75c o72c
      simp only [pilekeep1_KeysStay.l2]
      refine RS.go ?_
      refine RT.br rfl (fun c20 => ?_) (fun c20 => ?_)
      · refine RT.req rfl (by first | exact Nat.zero_add _ | rfl | simp) ?_
        refine RT.br rfl (fun c11 => ?_) (fun c11 => RT.none)
        refine RT.br rfl (fun c12 => ?_) (fun c12 => RT.none)
        refine RT.req rfl (by first | rfl | simp) ?_
        refine RT.req rfl ⟨by first | rfl | simp, elt_lt c11 (by first | exact c12 | simpa using c12)⟩ ?_
        refine RT.goto rfl ?_
        refine RS.obj 72 (bufE e_SS (o72c.set (x75c).toNat ((rdE e_SS o72c x75c).1, (⟨#[115, 112, 111, 105, 108, 116]⟩ : ByteArray)))) ⟨_, rfl, LeO.setE c11 (by first | exact c12 | simpa using c12) (all2 rfl rfl)⟩ ?_
        refine RS.go ?_
        refine RT.goto rfl ?_
        refine RS.weak [(5, sq eI x5), (6, sq eI x6), (16, .osl 72 e_SS.w 0 (o72c.set (x75c).toNat ((rdE e_SS o72c x75c).1, (⟨#[115, 112, 111, 105, 108, 116]⟩ : ByteArray))).length (o72c.set (x75c).toNat ((rdE e_SS o72c x75c).1, (⟨#[115, 112, 111, 105, 108, 116]⟩ : ByteArray))).length), (74, .int .i64 x74c), (75, .int .i64 (wrap64 (x75c + 1)))] [(72, bufE e_SS (o72c.set (x75c).toNat ((rdE e_SS o72c x75c).1, (⟨#[115, 112, 111, 105, 108, 116]⟩ : ByteArray))))] ⟨Le.eq (by first | rfl | simp), Le.eq (by first | rfl | simp), (by first | exact Le.oslN rfl (by first | rfl | simp) | exact Le.refl _ | exact Le.eq (by first | rfl | simp)), Le.eq (by first | rfl | simp), Le.eq (by first | rfl | simp), trivial⟩ ⟨⟨_, rfl, LeO.refl _⟩, trivial⟩ rfl (dom0 rfl) ?_
        exact ih.1 x5 x6 x74c (wrap64 (x75c + 1)) (o72c.set (x75c).toNat ((rdE e_SS o72c x75c).1, (⟨#[115, 112, 111, 105, 108, 116]⟩ : ByteArray))) 
      · refine RT.call0 rfl (fun _ h => slices_Equal_int_int.ok k x5 x6 _ h) (LeL.eq rfl) (fun _ => rfl) (fun r13 => ?_)
        refine RS.go ?_
        refine RT.brB rfl (fun c19 => ?_) (fun c19 => ?_)
        · refine RT.call rfl (fun _ h => key_Codes.ok k  _ h) (fun i => bif Nat.beq i 2 then 87 else i) (LeL.eq rfl) trivial (fun _ => rfl) (fun r14 => ?_)
          refine RS.go ?_
          refine RT.brT rfl ?_
          refine RT.call0 rfl (fun _ h => pileref1_CodesOf.ok k  _ h) (LeL.eq rfl) (fun _ => rfl) (fun r15 => ?_)
          refine RS.go ?_
          refine RT.brT rfl ?_
          refine RT.callRO 87 rfl (fun _ h => slices_Equal_api_Signed_api_Signed.ok k r14 r15 _ h) rfl ⟨.inr ⟨_, rfl, Nat.le_refl _, Le.refl _⟩, ⟨.inl ⟨(Le.refl _), rfl⟩, trivial⟩⟩ rfl (fun _ => ⟨_, rfl⟩) (fun r16 => ?_)
          refine RS.go ?_
          refine RT.brT rfl ?_
          refine RT.brB rfl (fun c18 => ?_) (fun c18 => ?_)
          · refine RT.call0 rfl (fun _ h => pilekeep1_ready.ok k  _ h) (LeL.eq rfl) (fun _ => rfl) (fun r17 => ?_)
            refine RS.go ?_
            refine RT.brT rfl ?_
            exact RT.done rfl rfl (Le.refl _) trivial rfl (dom0 rfl)
          · refine RT.brF rfl ?_
            exact RT.done rfl rfl (Le.refl _) trivial rfl (dom0 rfl)
        · refine RT.brF rfl ?_
          refine RT.brF rfl ?_
          refine RT.brF rfl ?_
          refine RT.brF rfl ?_
          refine RT.brF rfl ?_
          exact RT.done rfl rfl (Le.refl _) trivial rfl (dom0 rfl)
    · intro x5 x6 o35 x65b o35b
      simp only [pilekeep1_KeysStay.l1]
      refine RS.go ?_
      refine RT.br rfl (fun c21 => ?_) (fun c21 => ?_)
      · refine RT.req rfl (by first | exact Nat.zero_add _ | rfl | simp) ?_
        refine RT.br rfl (fun c8 => ?_) (fun c8 => RT.none)
        refine RT.br rfl (fun c9 => ?_) (fun c9 => RT.none)
        refine RT.req rfl ⟨by first | rfl | simp, elt_lt c8 (by first | exact c9 | simpa using c9)⟩ ?_
        refine RT.goto rfl ?_
        refine RS.obj 35 (bufE eI (o35b.set (x65b).toNat 777)) ⟨_, rfl, LeO.setE c8 (by first | exact c9 | simpa using c9) (all1 rfl)⟩ ?_
        refine RS.go ?_
        refine RT.goto rfl ?_
        refine RS.weak [(5, sq eI x5), (6, sq eI x6), (9, .osl 35 eI.w 0 (o35b.set (x65b).toNat 777).length (o35b.set (x65b).toNat 777).length), (64, .int .i64 (o35.length : Int)), (65, .int .i64 (wrap64 (x65b + 1)))] [(35, bufE eI (o35b.set (x65b).toNat 777))] ⟨Le.eq (by first | rfl | simp), Le.eq (by first | rfl | simp), (by first | exact Le.oslN rfl (by first | rfl | simp) | exact Le.refl _ | exact Le.eq (by first | rfl | simp)), Le.eq (by first | rfl | simp), Le.eq (by first | rfl | simp), trivial⟩ ⟨⟨_, rfl, LeO.refl _⟩, trivial⟩ rfl (dom0 rfl) ?_
        exact ih.2.1 x5 x6 o35 (wrap64 (x65b + 1)) (o35b.set (x65b).toNat 777) 
      · refine RT.call rfl (fun _ h => key_Codes.ok k  _ h) (fun i => bif Nat.beq i 2 then 72 else i) (LeL.eq rfl) trivial (fun _ => rfl) (fun r10 => ?_)
        refine RS.go ?_
        refine RT.req rfl (by first | exact Nat.zero_add _ | rfl | simp [szf, szOf]) ?_
        refine RT.goto rfl ?_
        refine RS.weak [(5, sq eI x5), (6, sq eI x6), (16, .osl 72 e_SS.w 0 r10.length r10.length), (74, .int .i64 (r10.length : Int)), (75, .int .i64 0)] [(72, bufE e_SS r10)] ⟨Le.eq (by first | rfl | simp), Le.eq (by first | rfl | simp), (by first | exact Le.oslN rfl (by first | rfl | simp) | exact Le.refl _ | exact Le.eq (by first | rfl | simp)), Le.eq (by first | rfl | simp), Le.eq (by first | rfl | simp), trivial⟩ ⟨⟨_, rfl, LeO.refl _⟩, trivial⟩ rfl (dom0 rfl) ?_
        exact ih.1 x5 x6 (r10.length : Int) 0 r10 
    · intro x5 x6 x55 x56 t30 o30 o35
      simp only [pilekeep1_KeysStay.l0]
      refine RS.go ?_
      refine RT.br rfl (fun c22 => ?_) (fun c22 => ?_)
      · refine RT.req rfl (by first | exact Nat.zero_add _ | rfl | simp) ?_
        refine RT.br rfl (fun c6 => ?_) (fun c6 => RT.none)
        refine RT.br rfl (fun c7 => ?_) (fun c7 => RT.none)
        refine RT.req rfl ⟨by first | rfl | simp, elt_lt c6 (le_room2 c7)⟩ ?_
        refine RT.goto rfl ?_
        refine RS.obj 30 (bufE eI ((o30.set (x56).toNat 777) ++ t30)) ⟨_, rfl, LeO.setT c6 c7 (all1 rfl)⟩ ?_
        refine RS.slot 7 (.osl 30 eI.w 0 (o30.set (x56).toNat 777).length ((o30.set (x56).toNat 777) ++ t30).length) (Le.osl2 rfl rfl (by simp) (by simp)) ?_
        refine RS.slot 59 (.osl 30 eI.w 0 (o30.set (x56).toNat 777).length ((o30.set (x56).toNat 777) ++ t30).length) (Le.osl2 rfl rfl (by simp) (by simp)) ?_
        refine RS.go ?_
        refine RT.goto rfl ?_
        refine RS.weak [(5, sq eI x5), (6, sq eI x6), (7, .osl 30 eI.w 0 (o30.set (x56).toNat 777).length ((o30.set (x56).toNat 777) ++ t30).length), (9, .osl 35 eI.w 0 o35.length o35.length), (55, .int .i64 x55), (56, .int .i64 (wrap64 (x56 + 1)))] [(30, bufE eI ((o30.set (x56).toNat 777) ++ t30)), (35, bufE eI o35)] ⟨Le.eq (by first | rfl | simp), Le.eq (by first | rfl | simp), Le.osl2 rfl rfl (by first | rfl | simp) (by first | rfl | simp), (by first | exact Le.oslN rfl (by first | rfl | simp) | exact Le.refl _ | exact Le.eq (by first | rfl | simp)), Le.eq (by first | rfl | simp), Le.eq (by first | rfl | simp), trivial⟩ ⟨⟨_, rfl, by first | exact LeO.refl _ | exact LeO.room0⟩, ⟨_, rfl, LeO.refl _⟩, trivial⟩ rfl (dom0 rfl) ?_
        exact ih.2.2 x5 x6 x55 (wrap64 (x56 + 1)) t30 (o30.set (x56).toNat 777) o35 
      · refine RT.req rfl (by first | exact Nat.zero_add _ | rfl | simp [szf, szOf]) ?_
        refine RT.goto rfl ?_
        refine RS.weak [(5, sq eI x5), (6, sq eI x6), (9, .osl 35 eI.w 0 o35.length o35.length), (64, .int .i64 (o35.length : Int)), (65, .int .i64 0)] [(35, bufE eI o35)] ⟨Le.eq (by first | rfl | simp), Le.eq (by first | rfl | simp), (by first | exact Le.oslN rfl (by first | rfl | simp) | exact Le.refl _ | exact Le.eq (by first | rfl | simp)), Le.eq (by first | rfl | simp), Le.eq (by first | rfl | simp), trivial⟩ ⟨⟨_, rfl, LeO.refl _⟩, trivial⟩ rfl (dom0 rfl) ?_
        exact ih.2.1 x5 x6 o35 0 o35 
theorem pilekeep1_KeysStay.ok (k : Nat) (l0 : List Int) (r : Bool) (h : pilekeep1_KeysStay.f k l0 = some r) : Ct Tryz.prog B 4 [sq eI l0] (ofL []) (.bool r) (ofL []) := by
  refine Ct.of (Y := (fam Tryz.f4 [] [] [] (fun r : Bool => .bool r) (fun r => []))) Tryz.func4 rfl Tryz.call4 rfl rfl ?_ r h
  unfold pilekeep1_KeysStay.f
  refine RS.go ?_
  refine RT.call rfl (fun _ h => pilemake_Stream_RightKeyed.ok k l0 0 _ h) (fun i => bif Nat.beq i 100000 then 20 else i) (LeL.eq rfl) ⟨⟨_, rfl, LeO.refl _⟩, trivial⟩ (fun _ => rfl) (fun r1 => ?_)
  refine RS.go ?_
  refine RT.call rfl (fun _ h => pilemake_Stream_RightKeyed.ok k l0 0 _ h) (fun i => bif Nat.beq i 100000 then 23 else i) (LeL.eq rfl) ⟨⟨_, rfl, LeO.refl _⟩, trivial⟩ (fun _ => rfl) (fun r2 => ?_)
  refine RS.go ?_
  refine RT.call rfl (fun _ h => key_Clean.ok k r1.1 1 _ h) (fun i => bif Nat.beq i 19 then 30 else i) (LeL.eq rfl) trivial (fun _ => rfl) (fun r3 => ?_)
  refine RS.go ?_
  refine RT.call rfl (fun _ h => key_Uneven.ok k r1.1 60 _ h) (fun i => bif Nat.beq i 7 then 35 else i) (LeL.eq rfl) trivial (fun _ => rfl) (fun r4 => ?_)
  refine RS.go ?_
  refine RT.call0 rfl (fun _ h => key_Hear.ok k r1.1 _ h) (LeL.eq rfl) (fun _ => rfl) (fun r5 => ?_)
  refine RS.go ?_
  refine RT.brN rfl (fun c25 => ?_) (fun c25 => ?_)
  · refine RT.brF rfl ?_
    refine RT.brF rfl ?_
    refine RT.brN rfl (fun c24 => ?_) (fun c24 => ?_)
    · refine RT.brF rfl ?_
      refine RT.brF rfl ?_
      refine RT.brN rfl (fun c23 => ?_) (fun c23 => ?_)
      · refine RT.req rfl (by first | exact Nat.zero_add _ | rfl | simp [szf, szOf]) ?_
        refine RT.goto rfl ?_
        refine RS.weak [(5, sq eI r1.1), (6, sq eI r2.1), (7, .osl 30 eI.w 0 r3.1.length (r3.1 ++ r3.2.1).length), (9, .osl 35 eI.w 0 r4.1.length r4.1.length), (55, .int .i64 (r3.1.length : Int)), (56, .int .i64 0)] [(30, bufE eI (r3.1 ++ r3.2.1)), (35, bufE eI r4.1)] ⟨Le.eq (by first | rfl | simp), Le.eq (by first | rfl | simp), Le.osl2 rfl rfl (by first | rfl | simp) (by first | rfl | simp), (by first | exact Le.oslN rfl (by first | rfl | simp) | exact Le.refl _ | exact Le.eq (by first | rfl | simp)), Le.eq (by first | rfl | simp), Le.eq (by first | rfl | simp), trivial⟩ ⟨⟨_, rfl, by first | exact LeO.refl _ | exact LeO.room0⟩, ⟨_, rfl, LeO.refl _⟩, trivial⟩ rfl (dom0 rfl) ?_
        exact (pilekeep1_KeysStay.loops k).2.2 r1.1 r2.1 (r3.1.length : Int) 0 r3.2.1 r3.1 r4.1 
      · exact RT.done rfl rfl (Le.refl _) trivial rfl (dom0 rfl)
    · refine RT.brT rfl ?_
      refine RT.brT rfl ?_
      refine RT.brT rfl ?_
      exact RT.done rfl rfl (Le.refl _) trivial rfl (dom0 rfl)
  · refine RT.brT rfl ?_
    refine RT.brT rfl ?_
    refine RT.brT rfl ?_
    refine RT.brT rfl ?_
    refine RT.brT rfl ?_
    refine RT.brT rfl ?_
    exact RT.done rfl rfl (Le.refl _) trivial rfl (dom0 rfl)
end Go.EV
