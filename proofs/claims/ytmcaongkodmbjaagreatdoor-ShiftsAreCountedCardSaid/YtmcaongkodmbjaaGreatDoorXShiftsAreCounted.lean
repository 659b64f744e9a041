/- Printed by a program of this session: a Lean function for each function that the law reaches, and that the code comes to it. -/
import Derived.Test.YtmcaongkodmbjaaGreatDoorXShiftsAreCounteda
set_option linter.unusedVariables false
set_option linter.unusedSimpArgs false
namespace Go.EV
open Go Go.Proofs Go.RowKit
set_option maxHeartbeats 4000000
set_option maxRecDepth 100000
set_option linter.unusedVariables false
/-! ### rate_who: function 34 -/
mutual
def rate_who.j7 : Nat → List (Int × ByteArray) → Int → Int → ByteArray → Option (ByteArray)
  | 0, _, _, _, _ => Option.none
  | k + 1, l0, a1, x10, x5j7 => rate_who.l0 k l0 a1 x5j7 (wrap64 (x10 + 1))
def rate_who.l0 : Nat → List (Int × ByteArray) → Int → ByteArray → Int → Option (ByteArray)
  | 0, _, _, _, _ => Option.none
  | k + 1, l0, a1, x5, x10 => (if x10 < (l0.length : Int) then (if 0 ≤ x10 then (if x10 < (l0.length : Int) then (if (rdE e_IS l0 x10).1 ≤ a1 then rate_who.j7 k l0 a1 x10 ((rdE e_IS l0 x10).2) else rate_who.j7 k l0 a1 x10 x5) else Option.none) else Option.none) else Option.some x5)
end
def rate_who.f (k : Nat) (l0 : List (Int × ByteArray)) (a1 : Int) : Option (ByteArray) := rate_who.l0 k l0 a1 (⟨#[]⟩ : ByteArray) 0
theorem rate_who.loops : ∀ k, (∀ (l0 : List (Int × ByteArray)) (a1 : Int) (x10 : Int) (x5j7 : ByteArray), RS (fam Tryz.f34 [7] [] [] (fun r : ByteArray => .str r) (fun r => [])) (Func.reg Tryz.f34 7) ⟨ofT [(1, .int .i64 a1), (5, .str x5j7), (8, sq e_IS l0), (9, .int .i64 (l0.length : Int)), (10, .int .i64 x10)], ofL []⟩ (rate_who.j7 k l0 a1 x10 x5j7)) ∧ (∀ (l0 : List (Int × ByteArray)) (a1 : Int) (x5 : ByteArray) (x10 : Int), RS (fam Tryz.f34 [7] [] [] (fun r : ByteArray => .str r) (fun r => [])) (Func.head Tryz.f34 0) ⟨ofT [(1, .int .i64 a1), (5, .str x5), (8, sq e_IS l0), (9, .int .i64 (l0.length : Int)), (10, .int .i64 x10)], ofL []⟩ (rate_who.l0 k l0 a1 x5 x10))
  | 0 => ⟨by intro _ _ _ _; simp only [rate_who.j7]; exact RS.none, by intro _ _ _ _; simp only [rate_who.l0]; exact RS.none⟩
  | k + 1 => by
    have ih := rate_who.loops k
    refine ⟨?_, ?_⟩
    · intro l0 a1 x10 x5j7
      simp only [rate_who.j7]
      refine RS.region ?_
      refine RS.go ?_
      refine RT.goto rfl ?_
      refine RS.weak [(1, .int .i64 a1), (5, .str x5j7), (8, sq e_IS l0), (9, .int .i64 (l0.length : Int)), (10, .int .i64 (wrap64 (x10 + 1)))] [] ⟨Le.eq (by first | rfl | simp), Le.eq (by first | rfl | simp), Le.eq (by first | rfl | simp), Le.eq (by first | rfl | simp), Le.eq (by first | rfl | simp), trivial⟩ trivial rfl (dom0 rfl) ?_
      exact ih.2 l0 a1 x5j7 (wrap64 (x10 + 1)) 
    · intro l0 a1 x5 x10
      simp only [rate_who.l0]
      refine RS.go ?_
      refine RT.br rfl (fun c4 => ?_) (fun c4 => ?_)
      · refine RT.br rfl (fun c1 => ?_) (fun c1 => RT.none)
        refine RT.br rfl (fun c2 => ?_) (fun c2 => RT.none)
        refine RT.br rfl (fun c3 => ?_) (fun c3 => ?_)
        · refine RT.goto rfl ?_
          refine RS.weak [(1, .int .i64 a1), (5, .str ((rdE e_IS l0 x10).2)), (8, sq e_IS l0), (9, .int .i64 (l0.length : Int)), (10, .int .i64 x10)] [] ⟨Le.eq (by first | rfl | simp), Le.eq (by first | rfl | simp), Le.eq (by first | rfl | simp), Le.eq (by first | rfl | simp), Le.eq (by first | rfl | simp), trivial⟩ trivial rfl (dom0 rfl) ?_
          exact ih.1 l0 a1 x10 ((rdE e_IS l0 x10).2) 
        · refine RT.goto rfl ?_
          refine RS.weak [(1, .int .i64 a1), (5, .str x5), (8, sq e_IS l0), (9, .int .i64 (l0.length : Int)), (10, .int .i64 x10)] [] ⟨Le.eq (by first | rfl | simp), Le.eq (by first | rfl | simp), Le.eq (by first | rfl | simp), Le.eq (by first | rfl | simp), Le.eq (by first | rfl | simp), trivial⟩ trivial rfl (dom0 rfl) ?_
          exact ih.1 l0 a1 x10 x5 
      · exact RT.done rfl rfl (Le.refl _) trivial rfl (dom0 rfl)
theorem rate_who.ok (k : Nat) (l0 : List (Int × ByteArray)) (a1 : Int) (r : ByteArray) (h : rate_who.f k l0 a1 = some r) : Ct Tryz.prog B 34 [sq e_IS l0, .int .i64 a1] (ofL []) (.str r) (ofL []) := by
  refine Ct.of (Y := (fam Tryz.f34 [7] [] [] (fun r : ByteArray => .str r) (fun r => []))) Tryz.func34 rfl Tryz.call34 rfl rfl ?_ r h
  unfold rate_who.f
  refine RS.go ?_
  refine RT.goto rfl ?_
  refine RS.weak [(1, .int .i64 a1), (5, .str (⟨#[]⟩ : ByteArray)), (8, sq e_IS l0), (9, .int .i64 (l0.length : Int)), (10, .int .i64 0)] [] ⟨Le.eq (by first | rfl | simp), Le.eq (by first | rfl | simp), Le.eq (by first | rfl | simp), Le.eq (by first | rfl | simp), Le.eq (by first | rfl | simp), trivial⟩ trivial rfl (dom0 rfl) ?_
  exact (rate_who.loops k).2 l0 a1 (⟨#[]⟩ : ByteArray) 0 
def maps_Keys_map_string_int_string_int.f (l0 : List (ByteArray × Int)) : Option Unit := some ()
theorem maps_Keys_map_string_int_string_int.ok (l0 : List (ByteArray × Int)) (r : Unit) (h : maps_Keys_map_string_int_string_int.f l0 = some r) : Ct Tryz.prog B 36 [.omap 100000] (ofL [(100000, mapE KL.strs (0 : Int) (AV.int .i64) l0)]) (.fn 66 [.ref 500000 1 0 0 1]) (ofL [(100000, mapE KL.strs (0 : Int) (AV.int .i64) l0), (500000, .box [.omap 100000])]) :=
  Ct.mapsKeys Tryz.call36 Tryz.maps_Keys_36

def slices_Sorted_string_of_maps_Keys_map_string_int_string_int_1.f (l0 : List (ByteArray × Int)) : Option (List ByteArray) := if (l0.map Prod.fst).Nodup ∧ (∀ s ∈ l0.map Prod.fst, s.size ≤ Go.maxLen) ∧ l0.length ≤ 1000000000000 then some (sortB (l0.map Prod.fst)) else none
theorem slices_Sorted_string_of_maps_Keys_map_string_int_string_int_1.ok (l0 : List (ByteArray × Int)) (r : List ByteArray) (h : slices_Sorted_string_of_maps_Keys_map_string_int_string_int_1.f l0 = some r) : Ct Tryz.prog B 35 [.fn 66 [.ref 200000 1 0 0 1]] (ofL [(200000, .box [.omap 600000]), (600000, mapE KL.strs (0 : Int) (AV.int .i64) l0)]) (sq eS r) (ofL [(200000, .box [.omap 600000]), (600000, mapE KL.strs (0 : Int) (AV.int .i64) l0)]) := by
  unfold slices_Sorted_string_of_maps_Keys_map_string_int_string_int_1.f at h
  split at h
  case isFalse => cases h
  case isTrue c =>
  cases h
  exact Ct.sortedKeys Tryz.call35 Tryz.underlying9 (fun Bm b nn D0 w h1 h2 h3 h4 h5 => Tryz.sorts_keys_35_36 Bm b nn D0 _ w h1 h2 h3 h4 h5) c.1 c.2.1 (by simpa using c.2.2)

/-! ### rate_Counts: function 9 -/
mutual
def rate_Counts.l1 : Nat → List (ByteArray × Int) → List (ByteArray × Int) → List ByteArray → Int → Int → List (ByteArray × Int × Int) → Option ((List (ByteArray × Int × Int)) × Int)
  | 0, _, _, _, _, _, _ => Option.none
  | k + 1, o30, o31, x47b, x48b, x49b, o14b => (if x49b < x48b then (if 0 ≤ x49b then (if x49b < (x47b.length : Int) then (if o14b.length + [((rdE eS x47b x49b), (mget (0 : Int) o31 (rdE eS x47b x49b)), (mget (0 : Int) o30 (rdE eS x47b x49b)))].length ≤ 549755813888 then rate_Counts.l1 k o30 o31 x47b x48b (wrap64 (x49b + 1)) (o14b ++ [((rdE eS x47b x49b), (mget (0 : Int) o31 (rdE eS x47b x49b)), (mget (0 : Int) o30 (rdE eS x47b x49b)))]) else Option.none) else Option.none) else Option.none) else Option.some (o14b, 0))
def rate_Counts.l0 : Nat → List Int → List (Int × ByteArray) → Int → List (ByteArray × Int) → List (ByteArray × Int) → Option ((List (ByteArray × Int × Int)) × Int)
  | 0, _, _, _, _, _ => Option.none
  | k + 1, l0, l2, x34, o30, o31 => (if x34 < (l0.length : Int) then (if 0 ≤ x34 then (if x34 < (l0.length : Int) then ((rate_who.f k l2 (rd l0 x34)).bind fun r6 => rate_Counts.l0 k l0 l2 (wrap64 (x34 + 1)) o30 (mput o31 r6 (wrap64 ((mget (0 : Int) o31 r6) + 1)))) else Option.none) else Option.none) else ((maps_Keys_map_string_int_string_int.f o30).bind fun r7 => ((slices_Sorted_string_of_maps_Keys_map_string_int_string_int_1.f o30).bind fun r8 => rate_Counts.l1 k o30 o31 r8 (r8.length : Int) 0 [])))
end
def rate_Counts.f (k : Nat) (l0 : List Int) (a1_0 : Int) (a1_1 : Int) (l2 : List (Int × ByteArray)) : Option ((List (ByteArray × Int × Int)) × Int) := ((rate_CheckTimes.f k l0 a1_0 a1_1).bind fun r1 => (if r1 = 0 then ((rate_CheckShifts.f k l2).bind fun r2 => (if r2 = 0 then ((rate_longs.f k l2 a1_0 a1_1).bind fun r3 => rate_Counts.l0 k l0 l2 0 r3 ([] : List (ByteArray × Int))) else Option.some ([], r2))) else Option.some ([], r1)))
theorem rate_Counts.loops : ∀ k, (∀ (o30 : List (ByteArray × Int)) (o31 : List (ByteArray × Int)) (x47b : List ByteArray) (x48b : Int) (x49b : Int) (o14b : List (ByteArray × Int × Int)), RS (fam Tryz.f9 [] [] [] (fun r : (List (ByteArray × Int × Int)) × Int => .tup [sq e_SII r.1, .int .i64 r.2]) (fun r => [])) (Func.head Tryz.f9 1) ⟨ofT [(10, .omap 30), (11, .omap 31), (14, .osl 14 e_SII.w 0 o14b.length o14b.length), (47, sq eS x47b), (48, .int .i64 x48b), (49, .int .i64 x49b)], ofL [(14, bufE e_SII o14b), (30, mapE KL.strs (0 : Int) (AV.int .i64) o30), (31, mapE KL.strs (0 : Int) (AV.int .i64) o31)]⟩ (rate_Counts.l1 k o30 o31 x47b x48b x49b o14b)) ∧ (∀ (l0 : List Int) (l2 : List (Int × ByteArray)) (x34 : Int) (o30 : List (ByteArray × Int)) (o31 : List (ByteArray × Int)), RS (fam Tryz.f9 [] [] [] (fun r : (List (ByteArray × Int × Int)) × Int => .tup [sq e_SII r.1, .int .i64 r.2]) (fun r => [])) (Func.head Tryz.f9 0) ⟨ofT [(2, sq e_IS l2), (10, .omap 30), (11, .omap 31), (32, sq eI l0), (33, .int .i64 (l0.length : Int)), (34, .int .i64 x34)], ofL [(30, mapE KL.strs (0 : Int) (AV.int .i64) o30), (31, mapE KL.strs (0 : Int) (AV.int .i64) o31)]⟩ (rate_Counts.l0 k l0 l2 x34 o30 o31))
  | 0 => ⟨by intro _ _ _ _ _ _; simp only [rate_Counts.l1]; exact RS.none, by intro _ _ _ _ _; simp only [rate_Counts.l0]; exact RS.none⟩
  | k + 1 => by
    have ih := rate_Counts.loops k
    refine ⟨?_, ?_⟩
    · intro o30 o31 x47b x48b x49b o14b
      simp only [rate_Counts.l1]
      refine RS.go ?_
      refine RT.br rfl (fun c12 => ?_) (fun c12 => ?_)
      · refine RT.br rfl (fun c9 => ?_) (fun c9 => RT.none)
        refine RT.br rfl (fun c10 => ?_) (fun c10 => RT.none)
        refine RT.req rfl (congrArg (AV.int .i64) (map_end (l := o31) (d := (0 : Int)))) ?_
        refine RT.req rfl (congrArg (AV.int .i64) (map_end (l := o30) (d := (0 : Int)))) ?_
        refine RT.goto rfl ?_
        refine RS.slot 62 (sq e_SII [((rdE eS x47b x49b), (mget (0 : Int) o31 (rdE eS x47b x49b)), (mget (0 : Int) o30 (rdE eS x47b x49b)))]) (Le.lit (E := e_SII) (l := [((rdE eS x47b x49b), (mget (0 : Int) o31 (rdE eS x47b x49b)), (mget (0 : Int) o30 (rdE eS x47b x49b)))]) (cells_of rfl)) ?_
        refine RS.go ?_
        refine RT.req rfl ⟨by first | rfl | simp, by first | exact Nat.le_refl _ | simp⟩ ?_
        refine RT.not rfl (by simp <;> omega) ?_
        refine RT.br rfl (fun c11 => ?_) (fun _ => RT.none)
        refine RT.goto rfl ?_
        refine RS.obj 14 (bufE e_SII (o14b ++ [((rdE eS x47b x49b), (mget (0 : Int) o31 (rdE eS x47b x49b)), (mget (0 : Int) o30 (rdE eS x47b x49b)))])) ⟨_, rfl, LeO.app (l := o14b) (m := [((rdE eS x47b x49b), (mget (0 : Int) o31 (rdE eS x47b x49b)), (mget (0 : Int) o30 (rdE eS x47b x49b)))]) fun _ _ _ _ => rfl⟩ ?_
        refine RS.slot 63 (.osl 14 e_SII.w 0 (o14b ++ [((rdE eS x47b x49b), (mget (0 : Int) o31 (rdE eS x47b x49b)), (mget (0 : Int) o30 (rdE eS x47b x49b)))]).length (o14b ++ [((rdE eS x47b x49b), (mget (0 : Int) o31 (rdE eS x47b x49b)), (mget (0 : Int) o30 (rdE eS x47b x49b)))]).length) (by first | exact Le.oslN rfl (by simp) | exact Le.trans (y := .osl 14 e_SII.w 0 (o14b.length + [((rdE eS x47b x49b), (mget (0 : Int) o31 (rdE eS x47b x49b)), (mget (0 : Int) o30 (rdE eS x47b x49b)))].length) (o14b.length + [((rdE eS x47b x49b), (mget (0 : Int) o31 (rdE eS x47b x49b)), (mget (0 : Int) o30 (rdE eS x47b x49b)))].length)) (Le.refl _) (Le.oslN rfl (by simp))) ?_
        refine RS.go ?_
        refine RT.goto rfl ?_
        refine RS.weak [(10, .omap 30), (11, .omap 31), (14, .osl 14 e_SII.w 0 (o14b ++ [((rdE eS x47b x49b), (mget (0 : Int) o31 (rdE eS x47b x49b)), (mget (0 : Int) o30 (rdE eS x47b x49b)))]).length (o14b ++ [((rdE eS x47b x49b), (mget (0 : Int) o31 (rdE eS x47b x49b)), (mget (0 : Int) o30 (rdE eS x47b x49b)))]).length), (47, sq eS x47b), (48, .int .i64 x48b), (49, .int .i64 (wrap64 (x49b + 1)))] [(14, bufE e_SII (o14b ++ [((rdE eS x47b x49b), (mget (0 : Int) o31 (rdE eS x47b x49b)), (mget (0 : Int) o30 (rdE eS x47b x49b)))])), (30, mapE KL.strs (0 : Int) (AV.int .i64) o30), (31, mapE KL.strs (0 : Int) (AV.int .i64) o31)] ⟨Le.eq (by first | rfl | simp), Le.eq (by first | rfl | simp), (by first | exact Le.oslN rfl (by first | rfl | simp) | exact Le.refl _ | exact Le.eq (by first | rfl | simp)), Le.eq (by first | rfl | simp), Le.eq (by first | rfl | simp), Le.eq (by first | rfl | simp), trivial⟩ ⟨⟨_, rfl, LeO.refl _⟩, ⟨_, rfl, LeO.refl _⟩, ⟨_, rfl, LeO.refl _⟩, trivial⟩ rfl (dom0 rfl) ?_
        exact ih.1 o30 o31 x47b x48b (wrap64 (x49b + 1)) (o14b ++ [((rdE eS x47b x49b), (mget (0 : Int) o31 (rdE eS x47b x49b)), (mget (0 : Int) o30 (rdE eS x47b x49b)))]) 
      · refine RT.freeze 14 _ _ _ [(6, sq e_SII o14b), (7, .int .i64 0)] [] rfl rfl ⟨.inr ⟨_, rfl, by first | exact Nat.le_refl _ | simp, rfl⟩, .inl (Le.refl _), trivial⟩ trivial rfl (dom0 rfl) ?_
        exact RT.done rfl rfl (Le.tup (LeL.cons (Le.refl _) (LeL.cons (Le.refl _) (LeL.nil)))) trivial rfl (dom0 rfl)
    · intro l0 l2 x34 o30 o31
      simp only [rate_Counts.l0]
      refine RS.go ?_
      refine RT.br rfl (fun c13 => ?_) (fun c13 => ?_)
      · refine RT.br rfl (fun c4 => ?_) (fun c4 => RT.none)
        refine RT.br rfl (fun c5 => ?_) (fun c5 => RT.none)
        refine RT.call0 rfl (fun _ h => rate_who.ok k l2 (rd l0 x34) _ h) (LeL.eq rfl) (fun _ => rfl) (fun r6 => ?_)
        refine RS.go ?_
        refine RT.req rfl (congrArg (AV.int .i64) (map_end (l := o31) (d := (0 : Int)))) ?_
        refine RT.goto rfl ?_
        refine RS.obj 31 (mapE KL.strs (0 : Int) (AV.int .i64) (mput o31 r6 (wrap64 ((mget (0 : Int) o31 r6) + 1)))) ⟨_, rfl, LeO.putS⟩ ?_
        refine RS.go ?_
        refine RT.goto rfl ?_
        refine RS.weak [(2, sq e_IS l2), (10, .omap 30), (11, .omap 31), (32, sq eI l0), (33, .int .i64 (l0.length : Int)), (34, .int .i64 (wrap64 (x34 + 1)))] [(30, mapE KL.strs (0 : Int) (AV.int .i64) o30), (31, mapE KL.strs (0 : Int) (AV.int .i64) (mput o31 r6 (wrap64 ((mget (0 : Int) o31 r6) + 1))))] ⟨Le.eq (by first | rfl | simp), Le.eq (by first | rfl | simp), Le.eq (by first | rfl | simp), Le.eq (by first | rfl | simp), Le.eq (by first | rfl | simp), Le.eq (by first | rfl | simp), trivial⟩ ⟨⟨_, rfl, LeO.refl _⟩, ⟨_, rfl, LeO.refl _⟩, trivial⟩ rfl (dom0 rfl) ?_
        exact ih.2 l0 l2 (wrap64 (x34 + 1)) o30 (mput o31 r6 (wrap64 ((mget (0 : Int) o31 r6) + 1))) 
      · refine RT.call rfl (fun _ h => maps_Keys_map_string_int_string_int.ok o30 _ h) (fun i => bif Nat.beq i 500000 then 46 else bif Nat.beq i 100000 then 30 else i) (LeL.eq rfl) ⟨⟨_, rfl, LeO.refl _⟩, trivial⟩ (fun _ => rfl) (fun r7 => ?_)
        refine RS.go ?_
        refine RT.call rfl (fun _ h => slices_Sorted_string_of_maps_Keys_map_string_int_string_int_1.ok o30 _ h) (fun i => bif Nat.beq i 600000 then 30 else bif Nat.beq i 200000 then 46 else i) (LeL.eq rfl) ⟨⟨_, rfl, LeO.refl _⟩, ⟨⟨_, rfl, LeO.refl _⟩, trivial⟩⟩ (fun _ => rfl) (fun r8 => ?_)
        refine RS.go ?_
        refine RT.goto rfl ?_
        refine RS.ghost 14 14 e_SII.w (rep e_SII []) rfl rfl ?_
        refine RS.weak [(10, .omap 30), (11, .omap 31), (14, .osl 14 e_SII.w 0 ([] : List (ByteArray × Int × Int)).length ([] : List (ByteArray × Int × Int)).length), (47, sq eS r8), (48, .int .i64 (r8.length : Int)), (49, .int .i64 0)] [(14, bufE e_SII ([] : List (ByteArray × Int × Int))), (30, mapE KL.strs (0 : Int) (AV.int .i64) o30), (31, mapE KL.strs (0 : Int) (AV.int .i64) o31)] ⟨Le.eq (by first | rfl | simp), Le.eq (by first | rfl | simp), (by first | exact Le.oslN rfl (by first | rfl | simp) | exact Le.refl _ | exact Le.eq (by first | rfl | simp)), Le.eq (by first | rfl | simp), Le.eq (by first | rfl | simp), Le.eq (by first | rfl | simp), trivial⟩ ⟨⟨_, rfl, LeO.refl _⟩, ⟨_, rfl, LeO.refl _⟩, ⟨_, rfl, LeO.refl _⟩, trivial⟩ rfl (dom0 rfl) ?_
        exact ih.1 o30 o31 r8 (r8.length : Int) 0 [] 
theorem rate_Counts.ok (k : Nat) (l0 : List Int) (a1_0 : Int) (a1_1 : Int) (l2 : List (Int × ByteArray)) (r : (List (ByteArray × Int × Int)) × Int) (h : rate_Counts.f k l0 a1_0 a1_1 l2 = some r) : Ct Tryz.prog B 9 [sq eI l0, .agg [.int .i64 a1_0, .int .i64 a1_1], sq e_IS l2] (ofL []) (.tup [sq e_SII r.1, .int .i64 r.2]) (ofL []) := by
  refine Ct.of (Y := (fam Tryz.f9 [] [] [] (fun r : (List (ByteArray × Int × Int)) × Int => .tup [sq e_SII r.1, .int .i64 r.2]) (fun r => []))) Tryz.func9 rfl Tryz.call9 rfl rfl ?_ r h
  unfold rate_Counts.f
  refine RS.go ?_
  refine RT.call0 rfl (fun _ h => rate_CheckTimes.ok k l0 a1_0 a1_1 _ h) (LeL.eq rfl) (fun _ => rfl) (fun r1 => ?_)
  refine RS.go ?_
  refine RT.brN rfl (fun c15 => ?_) (fun c15 => ?_)
  · refine RT.call0 rfl (fun _ h => rate_CheckShifts.ok k l2 _ h) (LeL.eq rfl) (fun _ => rfl) (fun r2 => ?_)
    refine RS.go ?_
    refine RT.brN rfl (fun c14 => ?_) (fun c14 => ?_)
    · refine RT.call rfl (fun _ h => rate_longs.ok k l2 a1_0 a1_1 _ h) (fun i => bif Nat.beq i 10 then 30 else i) (LeL.eq rfl) trivial (fun _ => rfl) (fun r3 => ?_)
      refine RS.go ?_
      refine RT.goto rfl ?_
      refine RS.weak [(2, sq e_IS l2), (10, .omap 30), (11, .omap 31), (32, sq eI l0), (33, .int .i64 (l0.length : Int)), (34, .int .i64 0)] [(30, mapE KL.strs (0 : Int) (AV.int .i64) r3), (31, mapE KL.strs (0 : Int) (AV.int .i64) ([] : List (ByteArray × Int)))] ⟨Le.eq (by first | rfl | simp), Le.eq (by first | rfl | simp), Le.eq (by first | rfl | simp), Le.eq (by first | rfl | simp), Le.eq (by first | rfl | simp), Le.eq (by first | rfl | simp), trivial⟩ ⟨⟨_, rfl, LeO.refl _⟩, ⟨_, rfl, LeO.refl _⟩, trivial⟩ rfl (dom0 rfl) ?_
      exact (rate_Counts.loops k).2 l0 l2 0 r3 ([] : List (ByteArray × Int)) 
    · exact RT.done rfl rfl (Le.tup (LeL.cons (Le.nil _ _) (LeL.cons (Le.refl _) (LeL.nil)))) trivial rfl (dom0 rfl)
  · exact RT.done rfl rfl (Le.tup (LeL.cons (Le.nil _ _) (LeL.cons (Le.refl _) (LeL.nil)))) trivial rfl (dom0 rfl)
/-! ### rate_Who: function 10 -/
def rate_Who.f (k : Nat) (l0 : List (Int × ByteArray)) (a1 : Int) : Option (ByteArray × Bool × Int) := ((rate_CheckShifts.f k l0).bind fun r1 => (if r1 = 0 then ((kit_IsMoment.f a1).bind fun r2 => (if r2 = true then ((rate_who.f k l0 a1).bind fun r3 => Option.some (r3, (!decide (r3 = (⟨#[]⟩ : ByteArray))), 0)) else Option.some ((⟨#[]⟩ : ByteArray), false, 1))) else Option.some ((⟨#[]⟩ : ByteArray), false, r1)))
theorem rate_Who.ok (k : Nat) (l0 : List (Int × ByteArray)) (a1 : Int) (r : ByteArray × Bool × Int) (h : rate_Who.f k l0 a1 = some r) : Ct Tryz.prog B 10 [sq e_IS l0, .int .i64 a1] (ofL []) (.tup [.str r.1, .bool r.2.1, .int .i64 r.2.2]) (ofL []) := by
  refine Ct.of (Y := (fam Tryz.f10 [] [] [] (fun r : ByteArray × Bool × Int => .tup [.str r.1, .bool r.2.1, .int .i64 r.2.2]) (fun r => []))) Tryz.func10 rfl Tryz.call10 rfl rfl ?_ r h
  unfold rate_Who.f
  refine RS.go ?_
  refine RT.call0 rfl (fun _ h => rate_CheckShifts.ok k l0 _ h) (LeL.eq rfl) (fun _ => rfl) (fun r1 => ?_)
  refine RS.go ?_
  refine RT.brN rfl (fun c5 => ?_) (fun c5 => ?_)
  · refine RT.call0 rfl (fun _ h => kit_IsMoment.ok a1 _ h) (LeL.eq rfl) (fun _ => rfl) (fun r2 => ?_)
    refine RS.go ?_
    refine RT.brBN rfl (fun c4 => ?_) (fun c4 => ?_)
    · refine RT.call0 rfl (fun _ h => rate_who.ok k l0 a1 _ h) (LeL.eq rfl) (fun _ => rfl) (fun r3 => ?_)
      refine RS.go ?_
      exact RT.done rfl rfl (Le.tup (LeL.cons (Le.refl _) (LeL.cons (Le.refl _) (LeL.cons (Le.refl _) (LeL.nil))))) trivial rfl (dom0 rfl)
    · exact RT.done rfl rfl (Le.tup (LeL.cons (Le.refl _) (LeL.cons (Le.refl _) (LeL.cons (Le.refl _) (LeL.nil))))) trivial rfl (dom0 rfl)
  · exact RT.done rfl rfl (Le.tup (LeL.cons (Le.refl _) (LeL.cons (Le.refl _) (LeL.cons (Le.refl _) (LeL.nil))))) trivial rfl (dom0 rfl)
/-! ### rate_Fairest: function 11 -/
mutual
def rate_Fairest.l1 : Nat → Int → List (ByteArray × Int) → Int → List Nat → Nat → Option (Int × Int)
  | 0, _, _, _, _, _ => Option.none
  | k + 1, x8, o25, x12b, o43b, q43b => (altO o43b.length (fun i8 => rate_Fairest.l1 k x8 o25 (wrap64 (x12b + (mx 0 (wrap64 (((List.map Prod.snd o25).getD (o43b.getD i8 0) (0 : Int)) - (wrap64 (Int.tdiv x8 ((List.map Prod.fst o25).length : Int)))))))) (o43b.eraseIdx i8) (o43b.getD i8 0)) (Option.some (x12b, 0)))
def rate_Fairest.l0 : Nat → Int → List (ByteArray × Int) → List Nat → Nat → Option (Int × Int)
  | 0, _, _, _, _ => Option.none
  | k + 1, x8, o25, o30, q30 => (altO o30.length (fun i4 => rate_Fairest.l0 k (wrap64 (x8 + ((List.map Prod.snd o25).getD (o30.getD i4 0) (0 : Int)))) o25 (o30.eraseIdx i4) (o30.getD i4 0)) (if ((List.map Prod.fst o25).length : Int) = 0 then Option.none else rate_Fairest.l1 k x8 o25 0 (List.range (List.map Prod.fst o25).length) ((List.map Prod.fst o25).length)))
end
def rate_Fairest.f (k : Nat) (l0 : List (Int × ByteArray)) (a1_0 : Int) (a1_1 : Int) : Option (Int × Int) := ((rate_CheckShifts.f k l0).bind fun r1 => (if r1 = 0 then ((kit_IsTime.f a1_0 a1_1).bind fun r2 => (if r2 = true then ((rate_longs.f k l0 a1_0 a1_1).bind fun r3 => (if ((List.map Prod.fst r3).length : Int) = 0 then Option.some (0, 0) else rate_Fairest.l0 k 0 r3 (List.range (List.map Prod.fst r3).length) ((List.map Prod.fst r3).length))) else Option.some (0, 1))) else Option.some (0, r1)))
theorem rate_Fairest.loops : ∀ k, (∀ (x8 : Int) (o25 : List (ByteArray × Int)) (x12b : Int) (o43b : List Nat) (q43b : Nat), RS (fam Tryz.f11 [] [] [] (fun r : Int × Int => .tup [.int .i64 r.1, .int .i64 r.2]) (fun r => [])) (Func.head Tryz.f11 1) ⟨ofT [(11, .int .i64 (wrap64 (Int.tdiv x8 ((List.map Prod.fst o25).length : Int)))), (12, .int .i64 x12b), (43, .ref 43 0 0 0 0)], ofL [(25, mapE KL.strs (0 : Int) (AV.int .i64) o25), (43, .mit 25 ((List.map Prod.fst o25).length) o43b q43b)]⟩ (rate_Fairest.l1 k x8 o25 x12b o43b q43b)) ∧ (∀ (x8 : Int) (o25 : List (ByteArray × Int)) (o30 : List Nat) (q30 : Nat), RS (fam Tryz.f11 [] [] [] (fun r : Int × Int => .tup [.int .i64 r.1, .int .i64 r.2]) (fun r => [])) (Func.head Tryz.f11 0) ⟨ofT [(7, .omap 25), (8, .int .i64 x8), (30, .ref 30 0 0 0 0)], ofL [(25, mapE KL.strs (0 : Int) (AV.int .i64) o25), (30, .mit 25 ((List.map Prod.fst o25).length) o30 q30)]⟩ (rate_Fairest.l0 k x8 o25 o30 q30))
  | 0 => ⟨by intro _ _ _ _ _; simp only [rate_Fairest.l1]; exact RS.none, by intro _ _ _ _; simp only [rate_Fairest.l0]; exact RS.none⟩
  | k + 1 => by
    have ih := rate_Fairest.loops k
    refine ⟨?_, ?_⟩
    · intro x8 o25 x12b o43b q43b
      simp only [rate_Fairest.l1]
      refine RS.go ?_
      refine RT.req rfl rfl ?_
      refine RT.alt rfl (fun c11 => ?_) (fun i8 c9 c10 => ?_)
      · refine RT.goto rfl ?_
        refine RS.go ?_
        refine RT.brF rfl ?_
        exact RT.done rfl rfl (Le.tup (LeL.cons (Le.refl _) (LeL.cons (Le.refl _) (LeL.nil)))) trivial rfl (dom0 rfl)
      · refine RT.goto rfl ?_
        refine RS.go ?_
        refine RT.brT rfl ?_
        refine RT.req rfl ⟨c10, rfl⟩ ?_
        refine RT.goto rfl ?_
        refine RS.go ?_
        refine RT.goto rfl ?_
        refine RS.weak [(11, .int .i64 (wrap64 (Int.tdiv x8 ((List.map Prod.fst o25).length : Int)))), (12, .int .i64 (wrap64 (x12b + (mx 0 (wrap64 (((List.map Prod.snd o25).getD (o43b.getD i8 0) (0 : Int)) - (wrap64 (Int.tdiv x8 ((List.map Prod.fst o25).length : Int))))))))), (43, .ref 43 0 0 0 0)] [(25, mapE KL.strs (0 : Int) (AV.int .i64) o25), (43, .mit 25 ((List.map Prod.fst o25).length) (o43b.eraseIdx i8) (o43b.getD i8 0))] ⟨Le.eq (by first | rfl | simp), Le.eq (by first | rfl | simp), Le.eq (by first | rfl | simp), trivial⟩ ⟨⟨_, rfl, LeO.refl _⟩, ⟨_, rfl, LeO.refl _⟩, trivial⟩ rfl (dom0 rfl) ?_
        exact ih.1 x8 o25 (wrap64 (x12b + (mx 0 (wrap64 (((List.map Prod.snd o25).getD (o43b.getD i8 0) (0 : Int)) - (wrap64 (Int.tdiv x8 ((List.map Prod.fst o25).length : Int)))))))) (o43b.eraseIdx i8) (o43b.getD i8 0) 
    · intro x8 o25 o30 q30
      simp only [rate_Fairest.l0]
      refine RS.go ?_
      refine RT.req rfl rfl ?_
      refine RT.alt rfl (fun c7 => ?_) (fun i4 c5 c6 => ?_)
      · refine RT.goto rfl ?_
        refine RS.go ?_
        refine RT.brF rfl ?_
        refine RT.br rfl (fun _ => RT.none) (fun c12 => ?_)
        refine RT.goto rfl ?_
        refine RS.go ?_
        refine RT.goto rfl ?_
        refine RS.weak [(11, .int .i64 (wrap64 (Int.tdiv x8 ((List.map Prod.fst o25).length : Int)))), (12, .int .i64 0), (43, .ref 43 0 0 0 0)] [(25, mapE KL.strs (0 : Int) (AV.int .i64) o25), (43, .mit 25 ((List.map Prod.fst o25).length) (List.range (List.map Prod.fst o25).length) ((List.map Prod.fst o25).length))] ⟨Le.eq (by first | rfl | simp), Le.eq (by first | rfl | simp), Le.eq (by first | rfl | simp), trivial⟩ ⟨⟨_, rfl, LeO.refl _⟩, ⟨_, rfl, LeO.refl _⟩, trivial⟩ rfl (dom0 rfl) ?_
        exact ih.1 x8 o25 0 (List.range (List.map Prod.fst o25).length) ((List.map Prod.fst o25).length) 
      · refine RT.goto rfl ?_
        refine RS.go ?_
        refine RT.brT rfl ?_
        refine RT.req rfl ⟨c6, rfl⟩ ?_
        refine RT.goto rfl ?_
        refine RS.go ?_
        refine RT.goto rfl ?_
        refine RS.weak [(7, .omap 25), (8, .int .i64 (wrap64 (x8 + ((List.map Prod.snd o25).getD (o30.getD i4 0) (0 : Int))))), (30, .ref 30 0 0 0 0)] [(25, mapE KL.strs (0 : Int) (AV.int .i64) o25), (30, .mit 25 ((List.map Prod.fst o25).length) (o30.eraseIdx i4) (o30.getD i4 0))] ⟨Le.eq (by first | rfl | simp), Le.eq (by first | rfl | simp), Le.eq (by first | rfl | simp), trivial⟩ ⟨⟨_, rfl, LeO.refl _⟩, ⟨_, rfl, LeO.refl _⟩, trivial⟩ rfl (dom0 rfl) ?_
        exact ih.2 (wrap64 (x8 + ((List.map Prod.snd o25).getD (o30.getD i4 0) (0 : Int)))) o25 (o30.eraseIdx i4) (o30.getD i4 0) 
theorem rate_Fairest.ok (k : Nat) (l0 : List (Int × ByteArray)) (a1_0 : Int) (a1_1 : Int) (r : Int × Int) (h : rate_Fairest.f k l0 a1_0 a1_1 = some r) : Ct Tryz.prog B 11 [sq e_IS l0, .agg [.int .i64 a1_0, .int .i64 a1_1]] (ofL []) (.tup [.int .i64 r.1, .int .i64 r.2]) (ofL []) := by
  refine Ct.of (Y := (fam Tryz.f11 [] [] [] (fun r : Int × Int => .tup [.int .i64 r.1, .int .i64 r.2]) (fun r => []))) Tryz.func11 rfl Tryz.call11 rfl rfl ?_ r h
  unfold rate_Fairest.f
  refine RS.go ?_
  refine RT.call0 rfl (fun _ h => rate_CheckShifts.ok k l0 _ h) (LeL.eq rfl) (fun _ => rfl) (fun r1 => ?_)
  refine RS.go ?_
  refine RT.brN rfl (fun c15 => ?_) (fun c15 => ?_)
  · refine RT.call0 rfl (fun _ h => kit_IsTime.ok a1_0 a1_1 _ h) (LeL.eq rfl) (fun _ => rfl) (fun r2 => ?_)
    refine RS.go ?_
    refine RT.brBN rfl (fun c14 => ?_) (fun c14 => ?_)
    · refine RT.call rfl (fun _ h => rate_longs.ok k l0 a1_0 a1_1 _ h) (fun i => bif Nat.beq i 10 then 25 else i) (LeL.eq rfl) trivial (fun _ => rfl) (fun r3 => ?_)
      refine RS.go ?_
      refine RT.br rfl (fun c13 => ?_) (fun c13 => ?_)
      · exact RT.done rfl rfl (Le.tup (LeL.cons (Le.refl _) (LeL.cons (Le.refl _) (LeL.nil)))) trivial rfl (dom0 rfl)
      · refine RT.goto rfl ?_
        refine RS.go ?_
        refine RT.goto rfl ?_
        refine RS.weak [(7, .omap 25), (8, .int .i64 0), (30, .ref 30 0 0 0 0)] [(25, mapE KL.strs (0 : Int) (AV.int .i64) r3), (30, .mit 25 ((List.map Prod.fst r3).length) (List.range (List.map Prod.fst r3).length) ((List.map Prod.fst r3).length))] ⟨Le.eq (by first | rfl | simp), Le.eq (by first | rfl | simp), Le.eq (by first | rfl | simp), trivial⟩ ⟨⟨_, rfl, LeO.refl _⟩, ⟨_, rfl, LeO.refl _⟩, trivial⟩ rfl (dom0 rfl) ?_
        exact (rate_Fairest.loops k).2 0 r3 (List.range (List.map Prod.fst r3).length) ((List.map Prod.fst r3).length) 
    · exact RT.done rfl rfl (Le.tup (LeL.cons (Le.refl _) (LeL.cons (Le.refl _) (LeL.nil)))) trivial rfl (dom0 rfl)
  · exact RT.done rfl rfl (Le.tup (LeL.cons (Le.refl _) (LeL.cons (Le.refl _) (LeL.nil)))) trivial rfl (dom0 rfl)
/-! ### pilekeep1_ShiftsAreCounted: function 3 -/
mutual
def pilekeep1_ShiftsAreCounted.j24 : Nat → List Int → List (Int × ByteArray) → Int → Int → Int → Int → Int → Int → Option (Bool)
  | 0, _, _, _, _, _, _, _, _ => Option.none
  | k + 1, x4, x6, x9, x10, o5_0, o5_1, x60b, x11j24 => pilekeep1_ShiftsAreCounted.l1 k x4 x6 x9 x10 o5_0 o5_1 x11j24 (wrap64 (x60b + 1))
def pilekeep1_ShiftsAreCounted.l1 : Nat → List Int → List (Int × ByteArray) → Int → Int → Int → Int → Int → Int → Option (Bool)
  | 0, _, _, _, _, _, _, _, _ => Option.none
  | k + 1, x4, x6, x9, x10, o5_0, o5_1, x11b, x60b => (if x60b < (x4.length : Int) then (if 0 ≤ x60b then (if x60b < (x4.length : Int) then ((rate_Who.f k x6 (rd x4 x60b)).bind fun r10 => (if r10.2.2 = 0 then (if r10.2.1 = true then pilekeep1_ShiftsAreCounted.j24 k x4 x6 x9 x10 o5_0 o5_1 x60b (wrap64 (x11b + 1)) else pilekeep1_ShiftsAreCounted.j24 k x4 x6 x9 x10 o5_0 o5_1 x60b x11b) else Option.some false)) else Option.none) else Option.none) else ((rate_Fairest.f k x6 o5_0 o5_1).bind fun r13 => (if r13.2 = 0 then (if x9 = x11b then (if x10 ≤ wrap64 (o5_1 - o5_0) then (if r13.1 ≤ x10 then ((pilekeep1_ready.f k ).bind fun r14 => Option.some r14) else Option.some false) else Option.some false) else Option.some false) else Option.some false)))
def pilekeep1_ShiftsAreCounted.l0 : Nat → List Int → List (Int × ByteArray) → Int → Int → List (ByteArray × Int × Int) → Int → Int → Int → Int → Option (Bool)
  | 0, _, _, _, _, _, _, _, _, _ => Option.none
  | k + 1, x4, x6, x9, x10, x43, x44, x45, o5_0, o5_1 => (if x45 < x44 then (if 0 ≤ x45 then (if x45 < (x43.length : Int) then pilekeep1_ShiftsAreCounted.l0 k x4 x6 (wrap64 (x9 + ((rdE e_SII x43 x45).2.1))) (wrap64 (x10 + ((rdE e_SII x43 x45).2.2))) x43 x44 (wrap64 (x45 + 1)) o5_0 o5_1 else Option.none) else Option.none) else pilekeep1_ShiftsAreCounted.l1 k x4 x6 x9 x10 o5_0 o5_1 0 0)
end
def pilekeep1_ShiftsAreCounted.f (k : Nat) (l0 : List Int) : Option (Bool) := ((pilemake_Stream_RightTimes.f k l0 0).bind fun r1 => ((pilemake_Stream_Shifts.f k r1.2.2.2.1 r1.2.2.2.2).bind fun r2 => ((pileref1_ShiftsFault.f k r2.1).bind fun r3 => (if r3 = 0 then ((rate_Counts.f k r1.1 r1.2.1 r1.2.2.1 r2.1).bind fun r5 => (if r5.2 = 0 then pilekeep1_ShiftsAreCounted.l0 k r1.1 r2.1 0 0 r5.1 (r5.1.length : Int) 0 r1.2.1 r1.2.2.1 else Option.some false)) else ((pilekeep1_ready.f k ).bind fun r4 => Option.some r4)))))
theorem pilekeep1_ShiftsAreCounted.loops : ∀ k, (∀ (x4 : List Int) (x6 : List (Int × ByteArray)) (x9 : Int) (x10 : Int) (o5_0 : Int) (o5_1 : Int) (x60b : Int) (x11j24 : Int), RS (fam Tryz.f3 [24] [] [] (fun r : Bool => .bool r) (fun r => [])) (Func.reg Tryz.f3 24) ⟨ofT [(5, .ref 5 0 0 0 2), (6, sq e_IS x6), (9, .int .i64 x9), (10, .int .i64 x10), (11, .int .i64 x11j24), (58, sq eI x4), (59, .int .i64 (x4.length : Int)), (60, .int .i64 x60b)], ofL [(5, .box [.int .i64 o5_0, .int .i64 o5_1])]⟩ (pilekeep1_ShiftsAreCounted.j24 k x4 x6 x9 x10 o5_0 o5_1 x60b x11j24)) ∧ (∀ (x4 : List Int) (x6 : List (Int × ByteArray)) (x9 : Int) (x10 : Int) (o5_0 : Int) (o5_1 : Int) (x11b : Int) (x60b : Int), RS (fam Tryz.f3 [24] [] [] (fun r : Bool => .bool r) (fun r => [])) (Func.head Tryz.f3 1) ⟨ofT [(5, .ref 5 0 0 0 2), (6, sq e_IS x6), (9, .int .i64 x9), (10, .int .i64 x10), (11, .int .i64 x11b), (58, sq eI x4), (59, .int .i64 (x4.length : Int)), (60, .int .i64 x60b)], ofL [(5, .box [.int .i64 o5_0, .int .i64 o5_1])]⟩ (pilekeep1_ShiftsAreCounted.l1 k x4 x6 x9 x10 o5_0 o5_1 x11b x60b)) ∧ (∀ (x4 : List Int) (x6 : List (Int × ByteArray)) (x9 : Int) (x10 : Int) (x43 : List (ByteArray × Int × Int)) (x44 : Int) (x45 : Int) (o5_0 : Int) (o5_1 : Int), RS (fam Tryz.f3 [24] [] [] (fun r : Bool => .bool r) (fun r => [])) (Func.head Tryz.f3 0) ⟨ofT [(4, sq eI x4), (5, .ref 5 0 0 0 2), (6, sq e_IS x6), (9, .int .i64 x9), (10, .int .i64 x10), (11, .int .i64 0), (43, sq e_SII x43), (44, .int .i64 x44), (45, .int .i64 x45)], ofL [(5, .box [.int .i64 o5_0, .int .i64 o5_1])]⟩ (pilekeep1_ShiftsAreCounted.l0 k x4 x6 x9 x10 x43 x44 x45 o5_0 o5_1))
  | 0 => ⟨by intro _ _ _ _ _ _ _ _; simp only [pilekeep1_ShiftsAreCounted.j24]; exact RS.none, by intro _ _ _ _ _ _ _ _; simp only [pilekeep1_ShiftsAreCounted.l1]; exact RS.none, by intro _ _ _ _ _ _ _ _ _; simp only [pilekeep1_ShiftsAreCounted.l0]; exact RS.none⟩
  | k + 1 => by
    have ih := pilekeep1_ShiftsAreCounted.loops k
    refine ⟨?_, ?_, ?_⟩
    · intro x4 x6 x9 x10 o5_0 o5_1 x60b x11j24
      simp only [pilekeep1_ShiftsAreCounted.j24]
      refine RS.region ?_
      refine RS.go ?_
      refine RT.goto rfl ?_
      refine RS.weak [(5, .ref 5 0 0 0 2), (6, sq e_IS x6), (9, .int .i64 x9), (10, .int .i64 x10), (11, .int .i64 x11j24), (58, sq eI x4), (59, .int .i64 (x4.length : Int)), (60, .int .i64 (wrap64 (x60b + 1)))] [(5, .box [.int .i64 o5_0, .int .i64 o5_1])] ⟨Le.eq (by first | rfl | simp), Le.eq (by first | rfl | simp), Le.eq (by first | rfl | simp), Le.eq (by first | rfl | simp), Le.eq (by first | rfl | simp), Le.eq (by first | rfl | simp), Le.eq (by first | rfl | simp), Le.eq (by first | rfl | simp), trivial⟩ ⟨⟨_, rfl, LeO.refl _⟩, trivial⟩ rfl (dom0 rfl) ?_
      exact ih.2.1 x4 x6 x9 x10 o5_0 o5_1 x11j24 (wrap64 (x60b + 1)) 
    · intro x4 x6 x9 x10 o5_0 o5_1 x11b x60b
      simp only [pilekeep1_ShiftsAreCounted.l1]
      refine RS.go ?_
      refine RT.br rfl (fun c19 => ?_) (fun c19 => ?_)
      · refine RT.br rfl (fun c8 => ?_) (fun c8 => RT.none)
        refine RT.br rfl (fun c9 => ?_) (fun c9 => RT.none)
        refine RT.call0 rfl (fun _ h => rate_Who.ok k x6 (rd x4 x60b) _ h) (LeL.eq rfl) (fun _ => rfl) (fun r10 => ?_)
        refine RS.go ?_
        refine RT.brN rfl (fun c12 => ?_) (fun c12 => ?_)
        · refine RT.brB rfl (fun c11 => ?_) (fun c11 => ?_)
          · refine RT.goto rfl ?_
            refine RS.weak [(5, .ref 5 0 0 0 2), (6, sq e_IS x6), (9, .int .i64 x9), (10, .int .i64 x10), (11, .int .i64 (wrap64 (x11b + 1))), (58, sq eI x4), (59, .int .i64 (x4.length : Int)), (60, .int .i64 x60b)] [(5, .box [.int .i64 o5_0, .int .i64 o5_1])] ⟨Le.eq (by first | rfl | simp), Le.eq (by first | rfl | simp), Le.eq (by first | rfl | simp), Le.eq (by first | rfl | simp), Le.eq (by first | rfl | simp), Le.eq (by first | rfl | simp), Le.eq (by first | rfl | simp), Le.eq (by first | rfl | simp), trivial⟩ ⟨⟨_, rfl, LeO.refl _⟩, trivial⟩ rfl (dom0 rfl) ?_
            exact ih.1 x4 x6 x9 x10 o5_0 o5_1 x60b (wrap64 (x11b + 1)) 
          · refine RT.goto rfl ?_
            refine RS.weak [(5, .ref 5 0 0 0 2), (6, sq e_IS x6), (9, .int .i64 x9), (10, .int .i64 x10), (11, .int .i64 x11b), (58, sq eI x4), (59, .int .i64 (x4.length : Int)), (60, .int .i64 x60b)] [(5, .box [.int .i64 o5_0, .int .i64 o5_1])] ⟨Le.eq (by first | rfl | simp), Le.eq (by first | rfl | simp), Le.eq (by first | rfl | simp), Le.eq (by first | rfl | simp), Le.eq (by first | rfl | simp), Le.eq (by first | rfl | simp), Le.eq (by first | rfl | simp), Le.eq (by first | rfl | simp), trivial⟩ ⟨⟨_, rfl, LeO.refl _⟩, trivial⟩ rfl (dom0 rfl) ?_
            exact ih.1 x4 x6 x9 x10 o5_0 o5_1 x60b x11b 
        · exact RT.done rfl rfl (Le.refl _) trivial rfl (dom0 rfl)
      · refine RT.call0 rfl (fun _ h => rate_Fairest.ok k x6 o5_0 o5_1 _ h) (LeL.eq rfl) (fun _ => rfl) (fun r13 => ?_)
        refine RS.go ?_
        refine RT.br rfl (fun c18 => ?_) (fun c18 => ?_)
        · refine RT.brT rfl ?_
          refine RT.brT rfl ?_
          refine RT.brT rfl ?_
          refine RT.br rfl (fun c17 => ?_) (fun c17 => ?_)
          · refine RT.brT rfl ?_
            refine RT.brT rfl ?_
            refine RT.brT rfl ?_
            refine RT.brT rfl ?_
            refine RT.brT rfl ?_
            refine RT.brT rfl ?_
            refine RT.brT rfl ?_
            refine RT.br rfl (fun c16 => ?_) (fun c16 => ?_)
            · refine RT.brT rfl ?_
              refine RT.brT rfl ?_
              refine RT.brT rfl ?_
              refine RT.br rfl (fun c15 => ?_) (fun c15 => ?_)
              · refine RT.call0 rfl (fun _ h => pilekeep1_ready.ok k  _ h) (LeL.eq rfl) (fun _ => rfl) (fun r14 => ?_)
                refine RS.go ?_
                refine RT.brT rfl ?_
                exact RT.done rfl rfl (Le.refl _) trivial rfl (dom0 rfl)
              · refine RT.brF rfl ?_
                exact RT.done rfl rfl (Le.refl _) trivial rfl (dom0 rfl)
            · refine RT.brF rfl ?_
              refine RT.brF rfl ?_
              refine RT.brF rfl ?_
              refine RT.brF rfl ?_
              refine RT.brF rfl ?_
              exact RT.done rfl rfl (Le.refl _) trivial rfl (dom0 rfl)
          · refine RT.brF rfl ?_
            refine RT.brF rfl ?_
            refine RT.brF rfl ?_
            refine RT.brF rfl ?_
            refine RT.brF rfl ?_
            refine RT.brF rfl ?_
            refine RT.brF rfl ?_
            refine RT.brF rfl ?_
            refine RT.brF rfl ?_
            refine RT.brF rfl ?_
            refine RT.brF rfl ?_
            refine RT.brF rfl ?_
            refine RT.brF rfl ?_
            exact RT.done rfl rfl (Le.refl _) trivial rfl (dom0 rfl)
        · refine RT.brF rfl ?_
          refine RT.brF rfl ?_
          refine RT.brF rfl ?_
          refine RT.brF rfl ?_
          refine RT.brF rfl ?_
          refine RT.brF rfl ?_
          refine RT.brF rfl ?_
          refine RT.brF rfl ?_
          refine RT.brF rfl ?_
          refine RT.brF rfl ?_
          refine RT.brF rfl ?_
          refine RT.brF rfl ?_
          refine RT.brF rfl ?_
          refine RT.brF rfl ?_
          refine RT.brF rfl ?_
          refine RT.brF rfl ?_
          refine RT.brF rfl ?_
          exact RT.done rfl rfl (Le.refl _) trivial rfl (dom0 rfl)
    · intro x4 x6 x9 x10 x43 x44 x45 o5_0 o5_1
      simp only [pilekeep1_ShiftsAreCounted.l0]
      refine RS.go ?_
      refine RT.br rfl (fun c20 => ?_) (fun c20 => ?_)
      · refine RT.br rfl (fun c6 => ?_) (fun c6 => RT.none)
        refine RT.br rfl (fun c7 => ?_) (fun c7 => RT.none)
        refine RT.goto rfl ?_
        refine RS.weak [(4, sq eI x4), (5, .ref 5 0 0 0 2), (6, sq e_IS x6), (9, .int .i64 (wrap64 (x9 + ((rdE e_SII x43 x45).2.1)))), (10, .int .i64 (wrap64 (x10 + ((rdE e_SII x43 x45).2.2)))), (11, .int .i64 0), (43, sq e_SII x43), (44, .int .i64 x44), (45, .int .i64 (wrap64 (x45 + 1)))] [(5, .box [.int .i64 o5_0, .int .i64 o5_1])] ⟨Le.eq (by first | rfl | simp), Le.eq (by first | rfl | simp), Le.eq (by first | rfl | simp), Le.eq (by first | rfl | simp), Le.eq (by first | rfl | simp), Le.eq (by first | rfl | simp), Le.eq (by first | rfl | simp), Le.eq (by first | rfl | simp), Le.eq (by first | rfl | simp), trivial⟩ ⟨⟨_, rfl, LeO.refl _⟩, trivial⟩ rfl (dom0 rfl) ?_
        exact ih.2.2 x4 x6 (wrap64 (x9 + ((rdE e_SII x43 x45).2.1))) (wrap64 (x10 + ((rdE e_SII x43 x45).2.2))) x43 x44 (wrap64 (x45 + 1)) o5_0 o5_1 
      · refine RT.goto rfl ?_
        refine RS.weak [(5, .ref 5 0 0 0 2), (6, sq e_IS x6), (9, .int .i64 x9), (10, .int .i64 x10), (11, .int .i64 0), (58, sq eI x4), (59, .int .i64 (x4.length : Int)), (60, .int .i64 0)] [(5, .box [.int .i64 o5_0, .int .i64 o5_1])] ⟨Le.eq (by first | rfl | simp), Le.eq (by first | rfl | simp), Le.eq (by first | rfl | simp), Le.eq (by first | rfl | simp), Le.eq (by first | rfl | simp), Le.eq (by first | rfl | simp), Le.eq (by first | rfl | simp), Le.eq (by first | rfl | simp), trivial⟩ ⟨⟨_, rfl, LeO.refl _⟩, trivial⟩ rfl (dom0 rfl) ?_
        exact ih.2.1 x4 x6 x9 x10 o5_0 o5_1 0 0 
theorem pilekeep1_ShiftsAreCounted.ok (k : Nat) (l0 : List Int) (r : Bool) (h : pilekeep1_ShiftsAreCounted.f k l0 = some r) : Ct Tryz.prog B 3 [sq eI l0] (ofL []) (.bool r) (ofL []) := by
  refine Ct.of (Y := (fam Tryz.f3 [24] [] [] (fun r : Bool => .bool r) (fun r => []))) Tryz.func3 rfl Tryz.call3 rfl rfl ?_ r h
  unfold pilekeep1_ShiftsAreCounted.f
  refine RS.go ?_
  refine RT.call rfl (fun _ h => pilemake_Stream_RightTimes.ok k l0 0 _ h) (fun i => bif Nat.beq i 100000 then 22 else i) (LeL.eq rfl) ⟨⟨_, rfl, LeO.refl _⟩, trivial⟩ (fun _ => rfl) (fun r1 => ?_)
  refine RS.go ?_
  refine RT.call rfl (fun _ h => pilemake_Stream_Shifts.ok k r1.2.2.2.1 r1.2.2.2.2 _ h) (fun i => bif Nat.beq i 100000 then 22 else i) (LeL.eq rfl) ⟨⟨_, rfl, LeO.refl _⟩, trivial⟩ (fun _ => rfl) (fun r2 => ?_)
  refine RS.go ?_
  refine RT.call0 rfl (fun _ h => pileref1_ShiftsFault.ok k r2.1 _ h) (LeL.eq rfl) (fun _ => rfl) (fun r3 => ?_)
  refine RS.go ?_
  refine RT.brN rfl (fun c22 => ?_) (fun c22 => ?_)
  · refine RT.call0 rfl (fun _ h => rate_Counts.ok k r1.1 r1.2.1 r1.2.2.1 r2.1 _ h) (LeL.eq rfl) (fun _ => rfl) (fun r5 => ?_)
    refine RS.go ?_
    refine RT.brN rfl (fun c21 => ?_) (fun c21 => ?_)
    · refine RT.goto rfl ?_
      refine RS.weak [(4, sq eI r1.1), (5, .ref 5 0 0 0 2), (6, sq e_IS r2.1), (9, .int .i64 0), (10, .int .i64 0), (11, .int .i64 0), (43, sq e_SII r5.1), (44, .int .i64 (r5.1.length : Int)), (45, .int .i64 0)] [(5, .box [.int .i64 r1.2.1, .int .i64 r1.2.2.1])] ⟨Le.eq (by first | rfl | simp), Le.eq (by first | rfl | simp), Le.eq (by first | rfl | simp), Le.eq (by first | rfl | simp), Le.eq (by first | rfl | simp), Le.eq (by first | rfl | simp), Le.eq (by first | rfl | simp), Le.eq (by first | rfl | simp), Le.eq (by first | rfl | simp), trivial⟩ ⟨⟨_, rfl, LeO.refl _⟩, trivial⟩ rfl (dom0 rfl) ?_
      exact (pilekeep1_ShiftsAreCounted.loops k).2.2 r1.1 r2.1 0 0 r5.1 (r5.1.length : Int) 0 r1.2.1 r1.2.2.1 
    · exact RT.done rfl rfl (Le.refl _) trivial rfl (dom0 rfl)
  · refine RT.call0 rfl (fun _ h => pilekeep1_ready.ok k  _ h) (LeL.eq rfl) (fun _ => rfl) (fun r4 => ?_)
    refine RS.go ?_
    exact RT.done rfl rfl (Le.refl _) trivial rfl (dom0 rfl)
end Go.EV
