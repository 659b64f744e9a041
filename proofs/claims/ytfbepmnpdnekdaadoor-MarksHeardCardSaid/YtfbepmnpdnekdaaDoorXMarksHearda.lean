/- Printed by a program of this session: a Lean function for each function that the law reaches, and that the code comes to it. -/
import Derived.Test.YtfbepmnpdnekdaaDoorEvS
set_option linter.unusedVariables false
set_option linter.unusedSimpArgs false
namespace Go.EV
open Go Go.Proofs Go.RowKit
set_option maxHeartbeats 4000000
set_option maxRecDepth 100000
set_option linter.unusedVariables false
def str_0 : ByteArray := ⟨#[46, 45, 32, 45, 46, 46, 46, 32, 45, 46, 45, 46, 32, 45, 46, 46, 32, 46, 32, 46, 46, 45, 46, 32, 45, 45, 46, 32, 46, 46, 46, 46, 32, 46, 46, 32, 46, 45, 45, 45, 32, 45, 46, 45, 32, 46, 45, 46, 46, 32, 45, 45, 32, 45, 46, 32, 45, 45, 45, 32, 46, 45, 45, 46, 32, 45, 45, 46, 45, 32, 46, 45, 46, 32, 46, 46, 46, 32, 45, 32, 46, 46, 45, 32, 46, 46, 46, 45, 32, 46, 45, 45, 32, 45, 46, 46, 45, 32, 45, 46, 45, 45, 32, 45, 45, 46, 46, 32, 45, 45, 45, 45, 45, 32, 46, 45, 45, 45, 45, 32, 46, 46, 45, 45, 45, 32, 46, 46, 46, 45, 45, 32, 46, 46, 46, 46, 45, 32, 46, 46, 46, 46, 46, 32, 45, 46, 46, 46, 46, 32, 45, 45, 46, 46, 46, 32, 45, 45, 45, 46, 46, 32, 45, 45, 45, 45, 46, 32, 45, 46, 46, 45, 46, 32, 46, 46, 45, 45, 46, 46, 32, 45, 46, 46, 46, 45, 32, 46, 45, 46, 45, 46]⟩
def str_1 : ByteArray := ⟨#[97, 98, 99, 100, 101, 102, 103, 104, 105, 106, 107, 108, 109, 110, 111, 112, 113, 114, 115, 116, 117, 118, 119, 120, 121, 122, 48, 49, 50, 51, 52, 53, 54, 55, 56, 57, 47, 63, 61, 43]⟩
def str_2 : ByteArray := ⟨#[97, 32, 46, 45, 32, 98, 32, 45, 46, 46, 46, 32, 99, 32, 45, 46, 45, 46, 32, 100, 32, 45, 46, 46, 32, 101, 32, 46, 32, 102, 32, 46, 46, 45, 46, 32, 103, 32, 45, 45, 46, 32, 104, 32, 46, 46, 46, 46, 32, 105, 32, 46, 46, 32, 106, 32, 46, 45, 45, 45, 32, 107, 32, 45, 46, 45, 32, 108, 32, 46, 45, 46, 46, 32, 109, 32, 45, 45, 32, 110, 32, 45, 46, 32, 111, 32, 45, 45, 45, 32, 112, 32, 46, 45, 45, 46, 32, 113, 32, 45, 45, 46, 45, 32, 114, 32, 46, 45, 46, 32, 115, 32, 46, 46, 46, 32, 116, 32, 45, 32, 117, 32, 46, 46, 45, 32, 118, 32, 46, 46, 46, 45, 32, 119, 32, 46, 45, 45, 32, 120, 32, 45, 46, 46, 45, 32, 121, 32, 45, 46, 45, 45, 32, 122, 32, 45, 45, 46, 46, 32, 48, 32, 45, 45, 45, 45, 45, 32, 49, 32, 46, 45, 45, 45, 45, 32, 50, 32, 46, 46, 45, 45, 45, 32, 51, 32, 46, 46, 46, 45, 45, 32, 52, 32, 46, 46, 46, 46, 45, 32, 53, 32, 46, 46, 46, 46, 46, 32, 54, 32, 45, 46, 46, 46, 46, 32, 55, 32, 45, 45, 46, 46, 46, 32, 56, 32, 45, 45, 45, 46, 46, 32, 57, 32, 45, 45, 45, 45, 46, 32, 47, 32, 45, 46, 46, 45, 46, 32, 63, 32, 46, 46, 45, 45, 46, 46, 32, 61, 32, 45, 46, 46, 46, 45, 32, 43, 32, 46, 45, 46, 45, 46]⟩
def e_SS.c : (ByteArray × ByteArray) → Nat → AV
  | x, 0 => .str x.1
  | x, _ => .str x.2
def e_SS : Enc (ByteArray × ByteArray) := ⟨2, (ByteArray.empty, ByteArray.empty), e_SS.c⟩
def e_L.c : List ByteArray → Nat → AV
  | x, _ => sq eS x
def e_L : Enc (List ByteArray) := ⟨1, [], e_L.c⟩
/-! ### pilemake_Below: function 96 -/
def pilemake_Below.j6 : Nat → Int → Option (Int)
  | 0, _ => Option.none
  | k + 1, x0j6 => Option.some x0j6
def pilemake_Below.f (k : Nat) (a0 : Int) (a1 : Int) : Option (Int) := (if a1 < 1 then Option.some 0 else (if a1 = 0 then Option.none else (if Int.tmod a0 a1 < 0 then pilemake_Below.j6 k (wrap64 ((Int.tmod a0 a1) + a1)) else pilemake_Below.j6 k (Int.tmod a0 a1))))
theorem pilemake_Below.loops : ∀ k, (∀ (x0j6 : Int), RS (fam Tryd.f96 [6] [] [] (fun r : Int => .int .i64 r) (fun r => [])) (Func.reg Tryd.f96 6) ⟨ofT [(0, .int .i64 x0j6)], ofL []⟩ (pilemake_Below.j6 k x0j6))
  | 0 => by intro _; simp only [pilemake_Below.j6]; exact RS.none
  | k + 1 => by
    have ih := pilemake_Below.loops k
    · intro x0j6
      simp only [pilemake_Below.j6]
      refine RS.region ?_
      refine RS.go ?_
      exact RT.done rfl rfl (Le.refl _) trivial rfl (dom0 rfl)
theorem pilemake_Below.ok (k : Nat) (a0 : Int) (a1 : Int) (r : Int) (h : pilemake_Below.f k a0 a1 = some r) : Ct Tryd.prog B 96 [.int .i64 a0, .int .i64 a1] (ofL []) (.int .i64 r) (ofL []) := by
  refine Ct.of (Y := (fam Tryd.f96 [6] [] [] (fun r : Int => .int .i64 r) (fun r => []))) Tryd.func96 rfl Tryd.call96 rfl rfl ?_ r h
  unfold pilemake_Below.f
  refine RS.go ?_
  refine RT.br rfl (fun c3 => ?_) (fun c3 => ?_)
  · exact RT.done rfl rfl (Le.refl _) trivial rfl (dom0 rfl)
  · refine RT.br rfl (fun _ => RT.none) (fun c2 => ?_)
    refine RT.br rfl (fun c1 => ?_) (fun c1 => ?_)
    · refine RT.goto rfl ?_
      refine RS.weak [(0, .int .i64 (wrap64 ((Int.tmod a0 a1) + a1)))] [] ⟨Le.eq (by first | rfl | simp), trivial⟩ trivial rfl (dom0 rfl) ?_
      exact pilemake_Below.loops k (wrap64 ((Int.tmod a0 a1) + a1)) 
    · refine RT.goto rfl ?_
      refine RS.weak [(0, .int .i64 (Int.tmod a0 a1))] [] ⟨Le.eq (by first | rfl | simp), trivial⟩ trivial rfl (dom0 rfl) ?_
      exact pilemake_Below.loops k (Int.tmod a0 a1) 
/-! ### pilemake_Stream_Next: function 52 -/
def pilemake_Stream_Next.k0 : List DK := [⟨[48], [], [6], []⟩, ⟨[42, 47], [], [48], []⟩, ⟨[46], [], [47], []⟩, ⟨[45], [100000], [46], []⟩, ⟨[44], [100000], [45], []⟩, ⟨[43], [100000], [44], []⟩, ⟨[0], [], [43], []⟩, ⟨[41], [], [42], []⟩, ⟨[40], [100000], [41], []⟩, ⟨[39], [100000], [40], []⟩, ⟨[38], [100000], [39], []⟩, ⟨[0], [], [38], []⟩]
def pilemake_Stream_Next.k1 : List Nat := [0, 1, 3, 7, 15, 0, 32, 96, 224, 480, 1023, 2047]
def pilemake_Stream_Next.k2 : List DK := [⟨[37], [], [5], []⟩, ⟨[31, 36], [], [37], []⟩, ⟨[35], [], [36], []⟩, ⟨[34], [100000], [35], []⟩, ⟨[33], [100000], [34], []⟩, ⟨[32], [100000], [33], []⟩, ⟨[0], [], [32], []⟩, ⟨[30], [], [31], []⟩, ⟨[29], [100000], [30], []⟩, ⟨[28], [100000], [29], []⟩, ⟨[27], [100000], [28], []⟩, ⟨[0], [], [27], []⟩]
def pilemake_Stream_Next.f (k : Nat) (p0_0 : List Int) (p0_1 : Int) (a1 : Int) : Option (Int × (List Int) × Int) := (if (p0_0.length : Int) = 0 then ((pilemake_Below.f k (wrap64 ((wrap64 (p0_1 + 1)) * 7919)) a1).bind fun r1 => Option.some (r1, p0_0, wrap64 (p0_1 + 1))) else (if (p0_0.length : Int) = 0 then Option.none else (if (p0_0.length : Int) = 0 then Option.none else (if 0 ≤ Int.tmod (wrap64 ((wrap64 (p0_1 + 1)) - 1)) (p0_0.length : Int) then (if Int.tmod (wrap64 ((wrap64 (p0_1 + 1)) - 1)) (p0_0.length : Int) < (p0_0.length : Int) then ((pilemake_Below.f k (rd p0_0 (Int.tmod (wrap64 ((wrap64 (p0_1 + 1)) - 1)) (p0_0.length : Int))) 1073741824).bind fun r4 => ((pilemake_Below.f k (wrap64 (r4 + (wrap64 ((wrap64 (Int.tdiv (wrap64 ((wrap64 (p0_1 + 1)) - 1)) (p0_0.length : Int))) * (wrap64 (7919 + (Int.tmod (wrap64 ((wrap64 (p0_1 + 1)) - 1)) (p0_0.length : Int)))))))) a1).bind fun r5 => Option.some (r5, p0_0, wrap64 (p0_1 + 1)))) else Option.none) else Option.none))))
theorem pilemake_Stream_Next.ok (k : Nat) (p0_0 : List Int) (p0_1 : Int) (a1 : Int) (r : Int × (List Int) × Int) (h : pilemake_Stream_Next.f k p0_0 p0_1 a1 = some r) : Ct Tryd.prog B 52 [.ref 100000 0 0 0 2, .int .i64 a1] (ofL [(100000, .box [sq eI p0_0, .int .i64 p0_1])]) (.int .i64 r.1) (ofL [(100000, .box [sq eI r.2.1, .int .i64 r.2.2])]) := by
  refine Ct.of (Y := (fam Tryd.f52 [] [] [(100000, .box [sq eI p0_0, .int .i64 p0_1])] (fun r : Int × (List Int) × Int => .int .i64 r.1) (fun r => [(100000, .box [sq eI r.2.1, .int .i64 r.2.2])]))) Tryd.func52 rfl Tryd.call52 rfl rfl ?_ r h
  unfold pilemake_Stream_Next.f
  refine RS.go ?_
  refine RT.br rfl (fun c8 => ?_) (fun c8 => ?_)
  · refine RT.call0 rfl (fun _ h => pilemake_Below.ok k (wrap64 ((wrap64 (p0_1 + 1)) * 7919)) a1 _ h) (LeL.eq rfl) (fun _ => rfl) (fun r1 => ?_)
    refine RS.go ?_
    exact RT.done rfl rfl (Le.refl _) ⟨⟨_, rfl, LeO.refl _⟩, trivial⟩ rfl (dom_of rfl)
  · refine RT.goto rfl ?_
    refine RS.draw rfl ?_
    refine RD.br rfl (fun _ => RD.none) (fun c7 => ?_)
    refine RD.fin pilemake_Stream_Next.k2 pilemake_Stream_Next.k1 rfl rfl (by decide +kernel) ?_
    refine RS.go ?_
    refine RT.goto rfl ?_
    refine RS.draw rfl ?_
    refine RD.br rfl (fun _ => RD.none) (fun c6 => ?_)
    refine RD.fin pilemake_Stream_Next.k0 pilemake_Stream_Next.k1 rfl rfl (by decide +kernel) ?_
    refine RS.go ?_
    refine RT.br rfl (fun c2 => ?_) (fun c2 => RT.none)
    refine RT.br rfl (fun c3 => ?_) (fun c3 => RT.none)
    refine RT.call0 rfl (fun _ h => pilemake_Below.ok k (rd p0_0 (Int.tmod (wrap64 ((wrap64 (p0_1 + 1)) - 1)) (p0_0.length : Int))) 1073741824 _ h) (LeL.eq rfl) (fun _ => rfl) (fun r4 => ?_)
    refine RS.go ?_
    refine RT.call0 rfl (fun _ h => pilemake_Below.ok k (wrap64 (r4 + (wrap64 ((wrap64 (Int.tdiv (wrap64 ((wrap64 (p0_1 + 1)) - 1)) (p0_0.length : Int))) * (wrap64 (7919 + (Int.tmod (wrap64 ((wrap64 (p0_1 + 1)) - 1)) (p0_0.length : Int)))))))) a1 _ h) (LeL.eq rfl) (fun _ => rfl) (fun r5 => ?_)
    refine RS.go ?_
    exact RT.done rfl rfl (Le.refl _) ⟨⟨_, rfl, LeO.refl _⟩, trivial⟩ rfl (dom_of rfl)
/-! ### pilemake_Stream_Pick: function 10 -/
def pilemake_Stream_Pick.f (k : Nat) (p0_0 : List Int) (p0_1 : Int) (l1 : List Int) : Option (Int × (List Int) × Int) := ((pilemake_Stream_Next.f k p0_0 p0_1 (l1.length : Int)).bind fun r1 => (if 0 ≤ r1.1 then (if r1.1 < (l1.length : Int) then Option.some ((rd l1 r1.1), r1.2.1, r1.2.2) else Option.none) else Option.none))
theorem pilemake_Stream_Pick.ok (k : Nat) (p0_0 : List Int) (p0_1 : Int) (l1 : List Int) (r : Int × (List Int) × Int) (h : pilemake_Stream_Pick.f k p0_0 p0_1 l1 = some r) : Ct Tryd.prog B 10 [.ref 100000 0 0 0 2, sq eI l1] (ofL [(100000, .box [sq eI p0_0, .int .i64 p0_1])]) (.int .i64 r.1) (ofL [(100000, .box [sq eI r.2.1, .int .i64 r.2.2])]) := by
  refine Ct.of (Y := (fam Tryd.f10 [] [] [(100000, .box [sq eI p0_0, .int .i64 p0_1])] (fun r : Int × (List Int) × Int => .int .i64 r.1) (fun r => [(100000, .box [sq eI r.2.1, .int .i64 r.2.2])]))) Tryd.func10 rfl Tryd.call10 rfl rfl ?_ r h
  unfold pilemake_Stream_Pick.f
  refine RS.go ?_
  refine RT.call rfl (fun _ h => pilemake_Stream_Next.ok k p0_0 p0_1 (l1.length : Int) _ h) (fun i => bif Nat.beq i 100000 then 100000 else i) (LeL.eq rfl) ⟨⟨_, rfl, LeO.refl _⟩, trivial⟩ (fun _ => rfl) (fun r1 => ?_)
  refine RS.go ?_
  refine RT.br rfl (fun c2 => ?_) (fun c2 => RT.none)
  refine RT.br rfl (fun c3 => ?_) (fun c3 => RT.none)
  exact RT.done rfl rfl (Le.refl _) ⟨⟨_, rfl, LeO.refl _⟩, trivial⟩ rfl (dom_of rfl)
/-! ### pilemake_Stream_Some: function 72 -/
def pilemake_Stream_Some.f (k : Nat) (p0_0 : List Int) (p0_1 : Int) (l1 : List ByteArray) : Option (ByteArray × (List Int) × Int) := ((pilemake_Stream_Next.f k p0_0 p0_1 (l1.length : Int)).bind fun r1 => (if 0 ≤ r1.1 then (if r1.1 < (l1.length : Int) then Option.some ((rdE eS l1 r1.1), r1.2.1, r1.2.2) else Option.none) else Option.none))
theorem pilemake_Stream_Some.ok (k : Nat) (p0_0 : List Int) (p0_1 : Int) (l1 : List ByteArray) (r : ByteArray × (List Int) × Int) (h : pilemake_Stream_Some.f k p0_0 p0_1 l1 = some r) : Ct Tryd.prog B 72 [.ref 100000 0 0 0 2, sq eS l1] (ofL [(100000, .box [sq eI p0_0, .int .i64 p0_1])]) (.str r.1) (ofL [(100000, .box [sq eI r.2.1, .int .i64 r.2.2])]) := by
  refine Ct.of (Y := (fam Tryd.f72 [] [] [(100000, .box [sq eI p0_0, .int .i64 p0_1])] (fun r : ByteArray × (List Int) × Int => .str r.1) (fun r => [(100000, .box [sq eI r.2.1, .int .i64 r.2.2])]))) Tryd.func72 rfl Tryd.call72 rfl rfl ?_ r h
  unfold pilemake_Stream_Some.f
  refine RS.go ?_
  refine RT.call rfl (fun _ h => pilemake_Stream_Next.ok k p0_0 p0_1 (l1.length : Int) _ h) (fun i => bif Nat.beq i 100000 then 100000 else i) (LeL.eq rfl) ⟨⟨_, rfl, LeO.refl _⟩, trivial⟩ (fun _ => rfl) (fun r1 => ?_)
  refine RS.go ?_
  refine RT.br rfl (fun c2 => ?_) (fun c2 => RT.none)
  refine RT.br rfl (fun c3 => ?_) (fun c3 => RT.none)
  exact RT.done rfl rfl (Le.refl _) ⟨⟨_, rfl, LeO.refl _⟩, trivial⟩ rfl (dom_of rfl)
def strings_Split.f (a0 : ByteArray) (a1 : ByteArray) : Option (List ByteArray) := if a0.size < 4294967281 ∧ 1 ≤ a1.size then some (Lib.splitB a1 0 (Lib.countB a0 a1) a0) else none
theorem strings_Split.ok (a0 : ByteArray) (a1 : ByteArray) (r : List ByteArray) (h : strings_Split.f a0 a1 = some r) : Ct Tryd.prog B 67 [.str a0, .str a1] (ofL []) (sq eS r) (ofL []) := by
  unfold strings_Split.f at h
  split at h
  case isFalse => cases h
  case isTrue c =>
  cases h
  refine Ct.libS Tryd.call67 rfl fun g w hb => ?_
  obtain ⟨m, hm⟩ := hbML hb
  refine (Tryd.strings_Split a0 a1 m w c.1 hm c.2).mono fun e w' ⟨he, hw⟩ => ⟨_, he, ?_⟩
  subst hw
  have hl : (Lib.splitB a1 0 (Lib.countB a0 a1) a0).length = Lib.countB a0 a1 + 1 := Lib.splitB_all a1 c.2 0 _ a0 rfl
  exact newS hl

/-! ### pileref1_CodesOf: function 33 -/
def pileref1_CodesOf.l0 : Nat → List ByteArray → Int → Int → List (ByteArray × ByteArray) → Option ((List (ByteArray × ByteArray)))
  | 0, _, _, _, _ => Option.none
  | k + 1, x4, x5, x6, o1 => (if x6 < x5 then (if 0 ≤ x6 then (if x6 < (x4.length : Int) then (if 0 ≤ wrap64 (x6 + 1) then (if wrap64 (x6 + 1) ≤ (str_1.size : Int) then (if 0 ≤ x6 then (if x6 ≤ wrap64 (x6 + 1) then (if o1.length + [(str_1.extract (x6).toNat (wrap64 (x6 + 1)).toNat, (rdE eS x4 x6))].length ≤ 549755813888 then pileref1_CodesOf.l0 k x4 x5 (wrap64 (x6 + 1)) (o1 ++ [(str_1.extract (x6).toNat (wrap64 (x6 + 1)).toNat, (rdE eS x4 x6))]) else Option.none) else Option.none) else Option.none) else Option.none) else Option.none) else Option.none) else Option.none) else Option.some o1)
def pileref1_CodesOf.f (k : Nat) : Option ((List (ByteArray × ByteArray))) := ((strings_Split.f str_0 (⟨#[32]⟩ : ByteArray)).bind fun r1 => pileref1_CodesOf.l0 k r1 (r1.length : Int) 0 [])
theorem pileref1_CodesOf.loops : ∀ k, (∀ (x4 : List ByteArray) (x5 : Int) (x6 : Int) (o1 : List (ByteArray × ByteArray)), RS (fam Tryd.f33 [] [] [] (fun r : (List (ByteArray × ByteArray)) => sq e_SS r) (fun r => [])) (Func.head Tryd.f33 0) ⟨ofT [(1, .osl 1 e_SS.w 0 o1.length o1.length), (4, sq eS x4), (5, .int .i64 x5), (6, .int .i64 x6)], ofL [(1, bufE e_SS o1)]⟩ (pileref1_CodesOf.l0 k x4 x5 x6 o1))
  | 0 => by intro _ _ _ _; simp only [pileref1_CodesOf.l0]; exact RS.none
  | k + 1 => by
    have ih := pileref1_CodesOf.loops k
    · intro x4 x5 x6 o1
      simp only [pileref1_CodesOf.l0]
      refine RS.go ?_
      refine RT.br rfl (fun c9 => ?_) (fun c9 => ?_)
      · refine RT.br rfl (fun c2 => ?_) (fun c2 => RT.none)
        refine RT.br rfl (fun c3 => ?_) (fun c3 => RT.none)
        refine RT.br rfl (fun c4 => ?_) (fun c4 => RT.none)
        refine RT.br rfl (fun c5 => ?_) (fun c5 => RT.none)
        refine RT.br rfl (fun c6 => ?_) (fun c6 => RT.none)
        refine RT.br rfl (fun c7 => ?_) (fun c7 => RT.none)
        refine RT.goto rfl ?_
        refine RS.slot 18 (sq e_SS [(str_1.extract (x6).toNat (wrap64 (x6 + 1)).toNat, (rdE eS x4 x6))]) (Le.lit (E := e_SS) (l := [(str_1.extract (x6).toNat (wrap64 (x6 + 1)).toNat, (rdE eS x4 x6))]) (cells_of rfl)) ?_
        refine RS.go ?_
        refine RT.req rfl ⟨by first | rfl | simp, by first | exact Nat.le_refl _ | simp⟩ ?_
        refine RT.not rfl (by simp <;> omega) ?_
        refine RT.br rfl (fun c8 => ?_) (fun _ => RT.none)
        refine RT.goto rfl ?_
        refine RS.obj 1 (bufE e_SS (o1 ++ [(str_1.extract (x6).toNat (wrap64 (x6 + 1)).toNat, (rdE eS x4 x6))])) ⟨_, rfl, LeO.app (l := o1) (m := [(str_1.extract (x6).toNat (wrap64 (x6 + 1)).toNat, (rdE eS x4 x6))]) fun _ _ _ _ => rfl⟩ ?_
        refine RS.slot 19 (.osl 1 e_SS.w 0 (o1 ++ [(str_1.extract (x6).toNat (wrap64 (x6 + 1)).toNat, (rdE eS x4 x6))]).length (o1 ++ [(str_1.extract (x6).toNat (wrap64 (x6 + 1)).toNat, (rdE eS x4 x6))]).length) (by first | exact Le.oslN rfl (by simp) | exact Le.trans (y := .osl 1 e_SS.w 0 (o1.length + [(str_1.extract (x6).toNat (wrap64 (x6 + 1)).toNat, (rdE eS x4 x6))].length) (o1.length + [(str_1.extract (x6).toNat (wrap64 (x6 + 1)).toNat, (rdE eS x4 x6))].length)) (Le.refl _) (Le.oslN rfl (by simp))) ?_
        refine RS.go ?_
        refine RT.goto rfl ?_
        refine RS.weak [(1, .osl 1 e_SS.w 0 (o1 ++ [(str_1.extract (x6).toNat (wrap64 (x6 + 1)).toNat, (rdE eS x4 x6))]).length (o1 ++ [(str_1.extract (x6).toNat (wrap64 (x6 + 1)).toNat, (rdE eS x4 x6))]).length), (4, sq eS x4), (5, .int .i64 x5), (6, .int .i64 (wrap64 (x6 + 1)))] [(1, bufE e_SS (o1 ++ [(str_1.extract (x6).toNat (wrap64 (x6 + 1)).toNat, (rdE eS x4 x6))]))] ⟨(by first | exact Le.oslN rfl (by first | rfl | simp) | exact Le.refl _ | exact Le.eq (by first | rfl | simp)), Le.eq (by first | rfl | simp), Le.eq (by first | rfl | simp), Le.eq (by first | rfl | simp), trivial⟩ ⟨⟨_, rfl, LeO.refl _⟩, trivial⟩ rfl (dom0 rfl) ?_
        exact ih x4 x5 (wrap64 (x6 + 1)) (o1 ++ [(str_1.extract (x6).toNat (wrap64 (x6 + 1)).toNat, (rdE eS x4 x6))]) 
      · refine RT.freeze 1 _ _ _ [(0, sq e_SS o1)] [] rfl rfl ⟨.inr ⟨_, rfl, by first | exact Nat.le_refl _ | simp, rfl⟩, trivial⟩ trivial rfl (dom0 rfl) ?_
        exact RT.done rfl rfl (Le.refl _) trivial rfl (dom0 rfl)
theorem pileref1_CodesOf.ok (k : Nat) (r : (List (ByteArray × ByteArray))) (h : pileref1_CodesOf.f k  = some r) : Ct Tryd.prog B 33 [] (ofL []) (sq e_SS r) (ofL []) := by
  refine Ct.of (Y := (fam Tryd.f33 [] [] [] (fun r : (List (ByteArray × ByteArray)) => sq e_SS r) (fun r => []))) Tryd.func33 rfl Tryd.call33 rfl rfl ?_ r h
  unfold pileref1_CodesOf.f
  refine RS.go ?_
  refine RT.call0 rfl (fun _ h => strings_Split.ok str_0 (⟨#[32]⟩ : ByteArray) _ h) (LeL.eq rfl) (fun _ => rfl) (fun r1 => ?_)
  refine RS.go ?_
  refine RT.goto rfl ?_
  refine RS.ghost 1 1 e_SS.w (rep e_SS []) rfl rfl ?_
  refine RS.weak [(1, .osl 1 e_SS.w 0 ([] : List (ByteArray × ByteArray)).length ([] : List (ByteArray × ByteArray)).length), (4, sq eS r1), (5, .int .i64 (r1.length : Int)), (6, .int .i64 0)] [(1, bufE e_SS ([] : List (ByteArray × ByteArray)))] ⟨(by first | exact Le.oslN rfl (by first | rfl | simp) | exact Le.refl _ | exact Le.eq (by first | rfl | simp)), Le.eq (by first | rfl | simp), Le.eq (by first | rfl | simp), Le.eq (by first | rfl | simp), trivial⟩ ⟨⟨_, rfl, LeO.refl _⟩, trivial⟩ rfl (dom0 rfl) ?_
  exact pileref1_CodesOf.loops k r1 (r1.length : Int) 0 [] 
def strings_IndexByte.f (a0 : ByteArray) (a1 : Int) : Option (Int) := some (Lib.indexByte a0.data.toList a1.toNat.toUInt8)
theorem strings_IndexByte.ok (a0 : ByteArray) (a1 : Int) (r : Int) (h : strings_IndexByte.f a0 a1 = some r) : Ct Tryd.prog B 94 [.str a0, .int .u8 a1] (ofL []) (.int .i64 r) (ofL []) := by
  unfold strings_IndexByte.f at h
  cases h
  refine Ct.lib Tryd.call94 rfl rfl fun g w hb => (Tryd.strings_IndexByte a0 a1 w).mono fun e w' ⟨he, hw⟩ => ⟨he, hw ▸ Below.refl _ _⟩

/-! ### pileref1_codeOf: function 81 -/
def pileref1_codeOf.f (k : Nat) (a0 : Int) : Option (ByteArray) := ((pileref1_CodesOf.f k ).bind fun r1 => ((strings_IndexByte.f str_1 a0).bind fun r2 => (if 0 ≤ r2 then (if r2 < (r1.length : Int) then Option.some ((rdE e_SS r1 r2).2) else Option.none) else Option.none)))
theorem pileref1_codeOf.ok (k : Nat) (a0 : Int) (r : ByteArray) (h : pileref1_codeOf.f k a0 = some r) : Ct Tryd.prog B 81 [.int .u8 a0] (ofL []) (.str r) (ofL []) := by
  refine Ct.of (Y := (fam Tryd.f81 [] [] [] (fun r : ByteArray => .str r) (fun r => []))) Tryd.func81 rfl Tryd.call81 rfl rfl ?_ r h
  unfold pileref1_codeOf.f
  refine RS.go ?_
  refine RT.call0 rfl (fun _ h => pileref1_CodesOf.ok k  _ h) (LeL.eq rfl) (fun _ => rfl) (fun r1 => ?_)
  refine RS.go ?_
  refine RT.call0 rfl (fun _ h => strings_IndexByte.ok str_1 a0 _ h) (LeL.eq rfl) (fun _ => rfl) (fun r2 => ?_)
  refine RS.go ?_
  refine RT.br rfl (fun c3 => ?_) (fun c3 => RT.none)
  refine RT.br rfl (fun c4 => ?_) (fun c4 => RT.none)
  exact RT.done rfl rfl (Le.refl _) trivial rfl (dom0 rfl)
/-! ### pileref1_KeyedOf: function 29 -/
mutual
def pileref1_KeyedOf.j16 : Nat → ByteArray → Int → Int → Int → ByteArray → Nat → List Int → Option ((List Int))
  | 0, _, _, _, _, _, _, _ => Option.none
  | k + 1, a0, a1, a2, x14, w27b, o27b, o7j16 => pileref1_KeyedOf.l1 k a0 a1 a2 x14 a1 o7j16 w27b (o27b + (Utf8.decode w27b o27b).2)
def pileref1_KeyedOf.j13 : Nat → ByteArray → Int → Int → Int → ByteArray → Nat → List Int → Option ((List Int))
  | 0, _, _, _, _, _, _, _ => Option.none
  | k + 1, a0, a1, a2, x14, w27b, o27b, o7j13 => (if ((Utf8.decode w27b o27b).1 : Int) = 46 then (if o7j13.length + 1 ≤ 549755813888 then pileref1_KeyedOf.j16 k a0 a1 a2 x14 w27b o27b (o7j13 ++ [a1]) else Option.none) else (if o7j13.length + 1 ≤ 549755813888 then pileref1_KeyedOf.j16 k a0 a1 a2 x14 w27b o27b (o7j13 ++ [wrap64 (3 * a1)]) else Option.none))
def pileref1_KeyedOf.l1 : Nat → ByteArray → Int → Int → Int → Int → List Int → ByteArray → Nat → Option ((List Int))
  | 0, _, _, _, _, _, _, _, _ => Option.none
  | k + 1, a0, a1, a2, x14, x8b, o7b, w27b, o27b => (if o27b < w27b.size then (if (o7b.length : Int) > 0 then (if o7b.length + 1 ≤ 549755813888 then pileref1_KeyedOf.j13 k a0 a1 a2 x14 w27b o27b (o7b ++ [x8b]) else Option.none) else pileref1_KeyedOf.j13 k a0 a1 a2 x14 w27b o27b o7b) else pileref1_KeyedOf.l0 k a0 a1 a2 (wrap64 (3 * a2)) (wrap64 (x14 + 1)) o7b)
def pileref1_KeyedOf.l0 : Nat → ByteArray → Int → Int → Int → Int → List Int → Option ((List Int))
  | 0, _, _, _, _, _, _ => Option.none
  | k + 1, a0, a1, a2, x8, x14, o7 => (if x14 < (a0.size : Int) then (if 0 ≤ x14 then (if x14 < (a0.size : Int) then (if bt a0 x14 = 32 then pileref1_KeyedOf.l0 k a0 a1 a2 (wrap64 (7 * a2)) (wrap64 (x14 + 1)) o7 else (if 0 ≤ x14 then (if x14 < (a0.size : Int) then ((pileref1_codeOf.f k (bt a0 x14)).bind fun r5 => pileref1_KeyedOf.l1 k a0 a1 a2 x14 x8 o7 r5 0) else Option.none) else Option.none)) else Option.none) else Option.none) else Option.some o7)
end
def pileref1_KeyedOf.f (k : Nat) (a0 : ByteArray) (a1 : Int) (a2 : Int) : Option ((List Int)) := pileref1_KeyedOf.l0 k a0 a1 a2 0 0 []
theorem pileref1_KeyedOf.loops : ∀ k, (∀ (a0 : ByteArray) (a1 : Int) (a2 : Int) (x14 : Int) (w27b : ByteArray) (o27b : Nat) (o7j16 : List Int), RS (fam Tryd.f29 [13, 16] [] [] (fun r : (List Int) => .osl 7 eI.w 0 r.length r.length) (fun r => [(7, bufE eI r)])) (Func.reg Tryd.f29 16) ⟨ofT [(0, .str a0), (1, .int .i64 a1), (2, .int .i64 a2), (7, .osl 7 eI.w 0 o7j16.length o7j16.length), (13, .int .i64 (a0.size : Int)), (14, .int .i64 x14), (27, .ref 27 0 0 0 0)], ofL [(7, bufE eI o7j16), (27, .it w27b (o27b + (Utf8.decode w27b o27b).2))]⟩ (pileref1_KeyedOf.j16 k a0 a1 a2 x14 w27b o27b o7j16)) ∧ (∀ (a0 : ByteArray) (a1 : Int) (a2 : Int) (x14 : Int) (w27b : ByteArray) (o27b : Nat) (o7j13 : List Int), RS (fam Tryd.f29 [13, 16] [] [] (fun r : (List Int) => .osl 7 eI.w 0 r.length r.length) (fun r => [(7, bufE eI r)])) (Func.reg Tryd.f29 13) ⟨ofT [(0, .str a0), (1, .int .i64 a1), (2, .int .i64 a2), (7, .osl 7 eI.w 0 o7j13.length o7j13.length), (11, .int .i32 ((Utf8.decode w27b o27b).1 : Int)), (13, .int .i64 (a0.size : Int)), (14, .int .i64 x14), (27, .ref 27 0 0 0 0)], ofL [(7, bufE eI o7j13), (27, .it w27b (o27b + (Utf8.decode w27b o27b).2))]⟩ (pileref1_KeyedOf.j13 k a0 a1 a2 x14 w27b o27b o7j13)) ∧ (∀ (a0 : ByteArray) (a1 : Int) (a2 : Int) (x14 : Int) (x8b : Int) (o7b : List Int) (w27b : ByteArray) (o27b : Nat), RS (fam Tryd.f29 [13, 16] [] [] (fun r : (List Int) => .osl 7 eI.w 0 r.length r.length) (fun r => [(7, bufE eI r)])) (Func.head Tryd.f29 1) ⟨ofT [(0, .str a0), (1, .int .i64 a1), (2, .int .i64 a2), (7, .osl 7 eI.w 0 o7b.length o7b.length), (8, .int .i64 x8b), (13, .int .i64 (a0.size : Int)), (14, .int .i64 x14), (27, .ref 27 0 0 0 0)], ofL [(7, bufE eI o7b), (27, .it w27b o27b)]⟩ (pileref1_KeyedOf.l1 k a0 a1 a2 x14 x8b o7b w27b o27b)) ∧ (∀ (a0 : ByteArray) (a1 : Int) (a2 : Int) (x8 : Int) (x14 : Int) (o7 : List Int), RS (fam Tryd.f29 [13, 16] [] [] (fun r : (List Int) => .osl 7 eI.w 0 r.length r.length) (fun r => [(7, bufE eI r)])) (Func.head Tryd.f29 0) ⟨ofT [(0, .str a0), (1, .int .i64 a1), (2, .int .i64 a2), (7, .osl 7 eI.w 0 o7.length o7.length), (8, .int .i64 x8), (13, .int .i64 (a0.size : Int)), (14, .int .i64 x14)], ofL [(7, bufE eI o7)]⟩ (pileref1_KeyedOf.l0 k a0 a1 a2 x8 x14 o7))
  | 0 => ⟨by intro _ _ _ _ _ _ _; simp only [pileref1_KeyedOf.j16]; exact RS.none, by intro _ _ _ _ _ _ _; simp only [pileref1_KeyedOf.j13]; exact RS.none, by intro _ _ _ _ _ _ _ _; simp only [pileref1_KeyedOf.l1]; exact RS.none, by intro _ _ _ _ _ _; simp only [pileref1_KeyedOf.l0]; exact RS.none⟩
  | k + 1 => by
    have ih := pileref1_KeyedOf.loops k
    refine ⟨?_, ?_, ?_, ?_⟩
    · intro a0 a1 a2 x14 w27b o27b o7j16
      simp only [pileref1_KeyedOf.j16]
      refine RS.region ?_
      refine RS.go ?_
      refine RT.goto rfl ?_
      refine RS.weak [(0, .str a0), (1, .int .i64 a1), (2, .int .i64 a2), (7, .osl 7 eI.w 0 o7j16.length o7j16.length), (8, .int .i64 a1), (13, .int .i64 (a0.size : Int)), (14, .int .i64 x14), (27, .ref 27 0 0 0 0)] [(7, bufE eI o7j16), (27, .it w27b (o27b + (Utf8.decode w27b o27b).2))] ⟨Le.eq (by first | rfl | simp), Le.eq (by first | rfl | simp), Le.eq (by first | rfl | simp), (by first | exact Le.oslN rfl (by first | rfl | simp) | exact Le.refl _ | exact Le.eq (by first | rfl | simp)), Le.eq (by first | rfl | simp), Le.eq (by first | rfl | simp), Le.eq (by first | rfl | simp), Le.eq (by first | rfl | simp), trivial⟩ ⟨⟨_, rfl, LeO.refl _⟩, ⟨_, rfl, LeO.refl _⟩, trivial⟩ rfl (dom0 rfl) ?_
      exact ih.2.2.1 a0 a1 a2 x14 a1 o7j16 w27b (o27b + (Utf8.decode w27b o27b).2) 
    · intro a0 a1 a2 x14 w27b o27b o7j13
      simp only [pileref1_KeyedOf.j13]
      refine RS.region ?_
      refine RS.go ?_
      refine RT.br rfl (fun c8 => ?_) (fun c8 => ?_)
      · refine RT.goto rfl ?_
        refine RS.slot 42 (sq eI [a1]) (Le.lit (E := eI) (l := [a1]) (cells_of rfl)) ?_
        refine RS.go ?_
        refine RT.req rfl ⟨by first | rfl | simp, by first | exact Nat.le_refl _ | simp⟩ ?_
        refine RT.not rfl (by simp <;> omega) ?_
        refine RT.br rfl (fun c6 => ?_) (fun _ => RT.none)
        refine RT.goto rfl ?_
        refine RS.obj 7 (bufE eI (o7j13 ++ [a1])) ⟨_, rfl, LeO.app (l := o7j13) (m := [a1]) fun _ _ _ _ => rfl⟩ ?_
        refine RS.slot 43 (.osl 7 eI.w 0 (o7j13 ++ [a1]).length (o7j13 ++ [a1]).length) (by first | exact Le.oslN rfl (by simp) | exact Le.trans (y := .osl 7 eI.w 0 (o7j13.length + 1) (o7j13.length + 1)) (Le.refl _) (Le.oslN rfl (by simp))) ?_
        refine RS.go ?_
        refine RT.goto rfl ?_
        refine RS.weak [(0, .str a0), (1, .int .i64 a1), (2, .int .i64 a2), (7, .osl 7 eI.w 0 (o7j13 ++ [a1]).length (o7j13 ++ [a1]).length), (13, .int .i64 (a0.size : Int)), (14, .int .i64 x14), (27, .ref 27 0 0 0 0)] [(7, bufE eI (o7j13 ++ [a1])), (27, .it w27b (o27b + (Utf8.decode w27b o27b).2))] ⟨Le.eq (by first | rfl | simp), Le.eq (by first | rfl | simp), Le.eq (by first | rfl | simp), (by first | exact Le.oslN rfl (by first | rfl | simp) | exact Le.refl _ | exact Le.eq (by first | rfl | simp)), Le.eq (by first | rfl | simp), Le.eq (by first | rfl | simp), Le.eq (by first | rfl | simp), trivial⟩ ⟨⟨_, rfl, LeO.refl _⟩, ⟨_, rfl, LeO.refl _⟩, trivial⟩ rfl (dom0 rfl) ?_
        exact ih.1 a0 a1 a2 x14 w27b o27b (o7j13 ++ [a1]) 
      · refine RT.goto rfl ?_
        refine RS.slot 47 (sq eI [wrap64 (3 * a1)]) (Le.lit (E := eI) (l := [wrap64 (3 * a1)]) (cells_of rfl)) ?_
        refine RS.go ?_
        refine RT.req rfl ⟨by first | rfl | simp, by first | exact Nat.le_refl _ | simp⟩ ?_
        refine RT.not rfl (by simp <;> omega) ?_
        refine RT.br rfl (fun c7 => ?_) (fun _ => RT.none)
        refine RT.goto rfl ?_
        refine RS.obj 7 (bufE eI (o7j13 ++ [wrap64 (3 * a1)])) ⟨_, rfl, LeO.app (l := o7j13) (m := [wrap64 (3 * a1)]) fun _ _ _ _ => rfl⟩ ?_
        refine RS.slot 48 (.osl 7 eI.w 0 (o7j13 ++ [wrap64 (3 * a1)]).length (o7j13 ++ [wrap64 (3 * a1)]).length) (by first | exact Le.oslN rfl (by simp) | exact Le.trans (y := .osl 7 eI.w 0 (o7j13.length + 1) (o7j13.length + 1)) (Le.refl _) (Le.oslN rfl (by simp))) ?_
        refine RS.go ?_
        refine RT.goto rfl ?_
        refine RS.weak [(0, .str a0), (1, .int .i64 a1), (2, .int .i64 a2), (7, .osl 7 eI.w 0 (o7j13 ++ [wrap64 (3 * a1)]).length (o7j13 ++ [wrap64 (3 * a1)]).length), (13, .int .i64 (a0.size : Int)), (14, .int .i64 x14), (27, .ref 27 0 0 0 0)] [(7, bufE eI (o7j13 ++ [wrap64 (3 * a1)])), (27, .it w27b (o27b + (Utf8.decode w27b o27b).2))] ⟨Le.eq (by first | rfl | simp), Le.eq (by first | rfl | simp), Le.eq (by first | rfl | simp), (by first | exact Le.oslN rfl (by first | rfl | simp) | exact Le.refl _ | exact Le.eq (by first | rfl | simp)), Le.eq (by first | rfl | simp), Le.eq (by first | rfl | simp), Le.eq (by first | rfl | simp), trivial⟩ ⟨⟨_, rfl, LeO.refl _⟩, ⟨_, rfl, LeO.refl _⟩, trivial⟩ rfl (dom0 rfl) ?_
        exact ih.1 a0 a1 a2 x14 w27b o27b (o7j13 ++ [wrap64 (3 * a1)]) 
    · intro a0 a1 a2 x14 x8b o7b w27b o27b
      simp only [pileref1_KeyedOf.l1]
      refine RS.go ?_
      refine RT.br rfl (fun c11 => ?_) (fun c11 => ?_)
      · refine RT.brT rfl ?_
        refine RT.req rfl (by first | exact Nat.zero_add _ | rfl | simp [szf, szOf]) ?_
        refine RT.br rfl (fun c10 => ?_) (fun c10 => ?_)
        · refine RT.goto rfl ?_
          refine RS.slot 36 (sq eI [x8b]) (Le.lit (E := eI) (l := [x8b]) (cells_of rfl)) ?_
          refine RS.go ?_
          refine RT.req rfl ⟨by first | rfl | simp, by first | exact Nat.le_refl _ | simp⟩ ?_
          refine RT.not rfl (by simp <;> omega) ?_
          refine RT.br rfl (fun c9 => ?_) (fun _ => RT.none)
          refine RT.goto rfl ?_
          refine RS.obj 7 (bufE eI (o7b ++ [x8b])) ⟨_, rfl, LeO.app (l := o7b) (m := [x8b]) fun _ _ _ _ => rfl⟩ ?_
          refine RS.slot 37 (.osl 7 eI.w 0 (o7b ++ [x8b]).length (o7b ++ [x8b]).length) (by first | exact Le.oslN rfl (by simp) | exact Le.trans (y := .osl 7 eI.w 0 (o7b.length + 1) (o7b.length + 1)) (Le.refl _) (Le.oslN rfl (by simp))) ?_
          refine RS.go ?_
          refine RT.goto rfl ?_
          refine RS.weak [(0, .str a0), (1, .int .i64 a1), (2, .int .i64 a2), (7, .osl 7 eI.w 0 (o7b ++ [x8b]).length (o7b ++ [x8b]).length), (11, .int .i32 ((Utf8.decode w27b o27b).1 : Int)), (13, .int .i64 (a0.size : Int)), (14, .int .i64 x14), (27, .ref 27 0 0 0 0)] [(7, bufE eI (o7b ++ [x8b])), (27, .it w27b (o27b + (Utf8.decode w27b o27b).2))] ⟨Le.eq (by first | rfl | simp), Le.eq (by first | rfl | simp), Le.eq (by first | rfl | simp), (by first | exact Le.oslN rfl (by first | rfl | simp) | exact Le.refl _ | exact Le.eq (by first | rfl | simp)), Le.eq (by first | rfl | simp), Le.eq (by first | rfl | simp), Le.eq (by first | rfl | simp), Le.eq (by first | rfl | simp), trivial⟩ ⟨⟨_, rfl, LeO.refl _⟩, ⟨_, rfl, LeO.refl _⟩, trivial⟩ rfl (dom0 rfl) ?_
          exact ih.2.1 a0 a1 a2 x14 w27b o27b (o7b ++ [x8b]) 
        · refine RT.goto rfl ?_
          refine RS.weak [(0, .str a0), (1, .int .i64 a1), (2, .int .i64 a2), (7, .osl 7 eI.w 0 o7b.length o7b.length), (11, .int .i32 ((Utf8.decode w27b o27b).1 : Int)), (13, .int .i64 (a0.size : Int)), (14, .int .i64 x14), (27, .ref 27 0 0 0 0)] [(7, bufE eI o7b), (27, .it w27b (o27b + (Utf8.decode w27b o27b).2))] ⟨Le.eq (by first | rfl | simp), Le.eq (by first | rfl | simp), Le.eq (by first | rfl | simp), (by first | exact Le.oslN rfl (by first | rfl | simp) | exact Le.refl _ | exact Le.eq (by first | rfl | simp)), Le.eq (by first | rfl | simp), Le.eq (by first | rfl | simp), Le.eq (by first | rfl | simp), Le.eq (by first | rfl | simp), trivial⟩ ⟨⟨_, rfl, LeO.refl _⟩, ⟨_, rfl, LeO.refl _⟩, trivial⟩ rfl (dom0 rfl) ?_
          exact ih.2.1 a0 a1 a2 x14 w27b o27b o7b 
      · refine RT.brF rfl ?_
        refine RT.goto rfl ?_
        refine RS.weak [(0, .str a0), (1, .int .i64 a1), (2, .int .i64 a2), (7, .osl 7 eI.w 0 o7b.length o7b.length), (8, .int .i64 (wrap64 (3 * a2))), (13, .int .i64 (a0.size : Int)), (14, .int .i64 (wrap64 (x14 + 1)))] [(7, bufE eI o7b)] ⟨Le.eq (by first | rfl | simp), Le.eq (by first | rfl | simp), Le.eq (by first | rfl | simp), (by first | exact Le.oslN rfl (by first | rfl | simp) | exact Le.refl _ | exact Le.eq (by first | rfl | simp)), Le.eq (by first | rfl | simp), Le.eq (by first | rfl | simp), Le.eq (by first | rfl | simp), trivial⟩ ⟨⟨_, rfl, LeO.refl _⟩, trivial⟩ rfl (dom0 rfl) ?_
        exact ih.2.2.2 a0 a1 a2 (wrap64 (3 * a2)) (wrap64 (x14 + 1)) o7b 
    · intro a0 a1 a2 x8 x14 o7
      simp only [pileref1_KeyedOf.l0]
      refine RS.go ?_
      refine RT.br rfl (fun c13 => ?_) (fun c13 => ?_)
      · refine RT.br rfl (fun c1 => ?_) (fun c1 => RT.none)
        refine RT.br rfl (fun c2 => ?_) (fun c2 => RT.none)
        refine RT.br rfl (fun c12 => ?_) (fun c12 => ?_)
        · refine RT.goto rfl ?_
          refine RS.weak [(0, .str a0), (1, .int .i64 a1), (2, .int .i64 a2), (7, .osl 7 eI.w 0 o7.length o7.length), (8, .int .i64 (wrap64 (7 * a2))), (13, .int .i64 (a0.size : Int)), (14, .int .i64 (wrap64 (x14 + 1)))] [(7, bufE eI o7)] ⟨Le.eq (by first | rfl | simp), Le.eq (by first | rfl | simp), Le.eq (by first | rfl | simp), (by first | exact Le.oslN rfl (by first | rfl | simp) | exact Le.refl _ | exact Le.eq (by first | rfl | simp)), Le.eq (by first | rfl | simp), Le.eq (by first | rfl | simp), Le.eq (by first | rfl | simp), trivial⟩ ⟨⟨_, rfl, LeO.refl _⟩, trivial⟩ rfl (dom0 rfl) ?_
          exact ih.2.2.2 a0 a1 a2 (wrap64 (7 * a2)) (wrap64 (x14 + 1)) o7 
        · refine RT.br rfl (fun c3 => ?_) (fun c3 => RT.none)
          refine RT.br rfl (fun c4 => ?_) (fun c4 => RT.none)
          refine RT.call0 rfl (fun _ h => pileref1_codeOf.ok k (bt a0 x14) _ h) (LeL.eq rfl) (fun _ => rfl) (fun r5 => ?_)
          refine RS.go ?_
          refine RT.goto rfl ?_
          refine RS.weak [(0, .str a0), (1, .int .i64 a1), (2, .int .i64 a2), (7, .osl 7 eI.w 0 o7.length o7.length), (8, .int .i64 x8), (13, .int .i64 (a0.size : Int)), (14, .int .i64 x14), (27, .ref 27 0 0 0 0)] [(7, bufE eI o7), (27, .it r5 0)] ⟨Le.eq (by first | rfl | simp), Le.eq (by first | rfl | simp), Le.eq (by first | rfl | simp), (by first | exact Le.oslN rfl (by first | rfl | simp) | exact Le.refl _ | exact Le.eq (by first | rfl | simp)), Le.eq (by first | rfl | simp), Le.eq (by first | rfl | simp), Le.eq (by first | rfl | simp), Le.eq (by first | rfl | simp), trivial⟩ ⟨⟨_, rfl, LeO.refl _⟩, ⟨_, rfl, LeO.refl _⟩, trivial⟩ rfl (dom0 rfl) ?_
          exact ih.2.2.1 a0 a1 a2 x14 x8 o7 r5 0 
      · exact RT.done rfl rfl (Le.refl _) ⟨⟨_, rfl, LeO.refl _⟩, trivial⟩ rfl (dom0 rfl)
theorem pileref1_KeyedOf.ok (k : Nat) (a0 : ByteArray) (a1 : Int) (a2 : Int) (r : (List Int)) (h : pileref1_KeyedOf.f k a0 a1 a2 = some r) : Ct Tryd.prog B 29 [.str a0, .int .i64 a1, .int .i64 a2] (ofL []) (.osl 7 eI.w 0 r.length r.length) (ofL [(7, bufE eI r)]) := by
  refine Ct.of (Y := (fam Tryd.f29 [13, 16] [] [] (fun r : (List Int) => .osl 7 eI.w 0 r.length r.length) (fun r => [(7, bufE eI r)]))) Tryd.func29 rfl Tryd.call29 rfl rfl ?_ r h
  unfold pileref1_KeyedOf.f
  refine RS.go ?_
  refine RT.goto rfl ?_
  refine RS.ghost 7 7 eI.w (rep eI []) rfl rfl ?_
  refine RS.weak [(0, .str a0), (1, .int .i64 a1), (2, .int .i64 a2), (7, .osl 7 eI.w 0 ([] : List Int).length ([] : List Int).length), (8, .int .i64 0), (13, .int .i64 (a0.size : Int)), (14, .int .i64 0)] [(7, bufE eI ([] : List Int))] ⟨Le.eq (by first | rfl | simp), Le.eq (by first | rfl | simp), Le.eq (by first | rfl | simp), (by first | exact Le.oslN rfl (by first | rfl | simp) | exact Le.refl _ | exact Le.eq (by first | rfl | simp)), Le.eq (by first | rfl | simp), Le.eq (by first | rfl | simp), Le.eq (by first | rfl | simp), trivial⟩ ⟨⟨_, rfl, LeO.refl _⟩, trivial⟩ rfl (dom0 rfl) ?_
  exact (pileref1_KeyedOf.loops k).2.2.2 a0 a1 a2 0 0 [] 
/-! ### pilemake_Stream_Flip: function 51 -/
def pilemake_Stream_Flip.f (k : Nat) (p0_0 : List Int) (p0_1 : Int) (a1 : Int) : Option (Bool × (List Int) × Int) := ((pilemake_Stream_Next.f k p0_0 p0_1 a1).bind fun r1 => Option.some ((decide (r1.1 = 0)), r1.2.1, r1.2.2))
theorem pilemake_Stream_Flip.ok (k : Nat) (p0_0 : List Int) (p0_1 : Int) (a1 : Int) (r : Bool × (List Int) × Int) (h : pilemake_Stream_Flip.f k p0_0 p0_1 a1 = some r) : Ct Tryd.prog B 51 [.ref 100000 0 0 0 2, .int .i64 a1] (ofL [(100000, .box [sq eI p0_0, .int .i64 p0_1])]) (.bool r.1) (ofL [(100000, .box [sq eI r.2.1, .int .i64 r.2.2])]) := by
  refine Ct.of (Y := (fam Tryd.f51 [] [] [(100000, .box [sq eI p0_0, .int .i64 p0_1])] (fun r : Bool × (List Int) × Int => .bool r.1) (fun r => [(100000, .box [sq eI r.2.1, .int .i64 r.2.2])]))) Tryd.func51 rfl Tryd.call51 rfl rfl ?_ r h
  unfold pilemake_Stream_Flip.f
  refine RS.go ?_
  refine RT.call rfl (fun _ h => pilemake_Stream_Next.ok k p0_0 p0_1 a1 _ h) (fun i => bif Nat.beq i 100000 then 100000 else i) (LeL.eq rfl) ⟨⟨_, rfl, LeO.refl _⟩, trivial⟩ (fun _ => rfl) (fun r1 => ?_)
  refine RS.go ?_
  exact RT.done rfl rfl (Le.refl _) ⟨⟨_, rfl, LeO.refl _⟩, trivial⟩ rfl (dom_of rfl)
/-! ### pilemake_Stream_RightKeyed: function 44 -/
def pilemake_Stream_RightKeyed.k0 : List DK := [⟨[45, 44], [18], [], [18]⟩, ⟨[26, 27], [18], [45], []⟩, ⟨[43], [], [44], []⟩, ⟨[31, 42], [], [43], []⟩, ⟨[32, 41], [100000, 100000], [42], [100000]⟩, ⟨[34, 37, 38, 40], [41], [41], []⟩, ⟨[39], [], [40], []⟩, ⟨[3], [], [39], []⟩, ⟨[3], [], [38], []⟩, ⟨[36], [], [37], []⟩, ⟨[35], [], [36], []⟩, ⟨[3], [], [35], []⟩, ⟨[33], [], [34], []⟩, ⟨[3], [], [33], []⟩, ⟨[0], [], [32], []⟩, ⟨[30], [18], [31], []⟩, ⟨[28, 29], [18], [30], []⟩, ⟨[5], [], [29], []⟩, ⟨[4], [], [28], []⟩, ⟨[5], [], [27], []⟩, ⟨[4], [], [26], []⟩]
def pilemake_Stream_RightKeyed.k1 : List Nat := [0, 0, 0, 0, 12, 28, 0, 0, 128, 0, 512, 1536, 0, 0, 8192, 32640, 65472, 131068, 262140, 524287, 1048575]
mutual
def pilemake_Stream_RightKeyed.j8 : Nat → Int → Int → Int → List Int → List Int → Int → Option ((List Int) × (List Int) × Int)
  | 0, _, _, _, _, _, _ => Option.none
  | k + 1, x3, x20, x21, o18j8, o100000_0j8, o100000_1j8 => pilemake_Stream_RightKeyed.l0 k x3 x20 (wrap64 (x21 + 1)) o18j8 o100000_0j8 o100000_1j8
def pilemake_Stream_RightKeyed.l0 : Nat → Int → Int → Int → List Int → List Int → Int → Option ((List Int) × (List Int) × Int)
  | 0, _, _, _, _, _, _ => Option.none
  | k + 1, x3, x20, x21, o18, o100000_0, o100000_1 => (if x21 < x20 then ((pilemake_Stream_Flip.f k o100000_0 o100000_1 3).bind fun r5 => (if r5.1 = true then (if 0 ≤ x21 then (if x21 < (o18.length : Int) then ((pilemake_Stream_Pick.f k r5.2.1 r5.2.2 [1, (-1), wrap64 (Int.tdiv x3 3), wrap64 (Int.tdiv (wrap64 (0 - x3)) 3), x3, wrap64 (0 - x3)]).bind fun r8 => (if 0 ≤ x21 then (if x21 < (o18.length : Int) then pilemake_Stream_RightKeyed.j8 k x3 x20 x21 (o18.set (x21).toNat (mx 1 (wrap64 ((rd o18 x21) + r8.1)))) r8.2.1 r8.2.2 else Option.none) else Option.none)) else Option.none) else Option.none) else pilemake_Stream_RightKeyed.j8 k x3 x20 x21 o18 r5.2.1 r5.2.2)) else Option.some (o18, o100000_0, o100000_1))
end
def pilemake_Stream_RightKeyed.f (k : Nat) (p0_0 : List Int) (p0_1 : Int) : Option ((List Int) × (List Int) × Int) := ((pilemake_Stream_Pick.f k p0_0 p0_1 [1, 20, 60, 100]).bind fun r1 => ((pilemake_Stream_Some.f k r1.2.1 r1.2.2 [(⟨#[101]⟩ : ByteArray), (⟨#[112, 97, 114, 105, 115]⟩ : ByteArray), (⟨#[107, 49, 97, 98, 32, 107]⟩ : ByteArray), (⟨#[116, 101, 115, 116, 32, 116]⟩ : ByteArray), (⟨#[53, 110, 110]⟩ : ByteArray), (⟨#[97, 32, 110]⟩ : ByteArray)]).bind fun r2 => ((pilemake_Stream_Pick.f k r2.2.1 r2.2.2 [1, 1, 2]).bind fun r3 => ((pileref1_KeyedOf.f k r2.1 r1.1 (wrap64 (r1.1 * r3.1))).bind fun r4 => pilemake_Stream_RightKeyed.l0 k r1.1 (r4.length : Int) 0 r4 r3.2.1 r3.2.2))))
theorem pilemake_Stream_RightKeyed.loops (p0_0 : List Int) (p0_1 : Int) : ∀ k, (∀ (x3 : Int) (x20 : Int) (x21 : Int) (o18j8 : List Int) (o100000_0j8 : List Int) (o100000_1j8 : Int), RS (fam Tryd.f44 [8] [] [(100000, .box [sq eI p0_0, .int .i64 p0_1])] (fun r : (List Int) × (List Int) × Int => .osl 18 eI.w 0 r.1.length r.1.length) (fun r => [(100000, .box [sq eI r.2.1, .int .i64 r.2.2]), (18, bufE eI r.1)])) (Func.reg Tryd.f44 8) ⟨ofT [(0, .ref 100000 0 0 0 2), (3, .int .i64 x3), (4, .osl 18 eI.w 0 o18j8.length o18j8.length), (20, .int .i64 x20), (21, .int .i64 x21)], ofL [(18, bufE eI o18j8), (100000, .box [sq eI o100000_0j8, .int .i64 o100000_1j8])]⟩ (pilemake_Stream_RightKeyed.j8 k x3 x20 x21 o18j8 o100000_0j8 o100000_1j8)) ∧ (∀ (x3 : Int) (x20 : Int) (x21 : Int) (o18 : List Int) (o100000_0 : List Int) (o100000_1 : Int), RS (fam Tryd.f44 [8] [] [(100000, .box [sq eI p0_0, .int .i64 p0_1])] (fun r : (List Int) × (List Int) × Int => .osl 18 eI.w 0 r.1.length r.1.length) (fun r => [(100000, .box [sq eI r.2.1, .int .i64 r.2.2]), (18, bufE eI r.1)])) (Func.head Tryd.f44 0) ⟨ofT [(0, .ref 100000 0 0 0 2), (3, .int .i64 x3), (4, .osl 18 eI.w 0 o18.length o18.length), (20, .int .i64 x20), (21, .int .i64 x21)], ofL [(18, bufE eI o18), (100000, .box [sq eI o100000_0, .int .i64 o100000_1])]⟩ (pilemake_Stream_RightKeyed.l0 k x3 x20 x21 o18 o100000_0 o100000_1))
  | 0 => ⟨by intro _ _ _ _ _ _; simp only [pilemake_Stream_RightKeyed.j8]; exact RS.none, by intro _ _ _ _ _ _; simp only [pilemake_Stream_RightKeyed.l0]; exact RS.none⟩
  | k + 1 => by
    have ih := pilemake_Stream_RightKeyed.loops p0_0 p0_1 k
    refine ⟨?_, ?_⟩
    · intro x3 x20 x21 o18j8 o100000_0j8 o100000_1j8
      simp only [pilemake_Stream_RightKeyed.j8]
      refine RS.region ?_
      refine RS.go ?_
      refine RT.goto rfl ?_
      refine RS.weak [(0, .ref 100000 0 0 0 2), (3, .int .i64 x3), (4, .osl 18 eI.w 0 o18j8.length o18j8.length), (20, .int .i64 x20), (21, .int .i64 (wrap64 (x21 + 1)))] [(18, bufE eI o18j8), (100000, .box [sq eI o100000_0j8, .int .i64 o100000_1j8])] ⟨Le.eq (by first | rfl | simp), Le.eq (by first | rfl | simp), (by first | exact Le.oslN rfl (by first | rfl | simp) | exact Le.refl _ | exact Le.eq (by first | rfl | simp)), Le.eq (by first | rfl | simp), Le.eq (by first | rfl | simp), trivial⟩ ⟨⟨_, rfl, LeO.refl _⟩, ⟨_, rfl, LeO.refl _⟩, trivial⟩ rfl (dom_of rfl) ?_
      exact ih.2 x3 x20 (wrap64 (x21 + 1)) o18j8 o100000_0j8 o100000_1j8 
    · intro x3 x20 x21 o18 o100000_0 o100000_1
      simp only [pilemake_Stream_RightKeyed.l0]
      refine RS.go ?_
      refine RT.br rfl (fun c12 => ?_) (fun c12 => ?_)
      · refine RT.call rfl (fun _ h => pilemake_Stream_Flip.ok k o100000_0 o100000_1 3 _ h) (fun i => bif Nat.beq i 100000 then 100000 else i) (LeL.eq rfl) ⟨⟨_, rfl, LeO.refl _⟩, trivial⟩ (fun _ => rfl) (fun r5 => ?_)
        refine RS.go ?_
        refine RT.brB rfl (fun c11 => ?_) (fun c11 => ?_)
        · refine RT.goto rfl ?_
          refine RS.draw rfl ?_
          refine RD.req rfl (by first | exact Nat.zero_add _ | rfl | simp) ?_
          refine RD.br rfl (fun c6 => ?_) (fun c6 => RD.none)
          refine RD.br rfl (fun c7 => ?_) (fun c7 => RD.none)
          refine RD.req rfl ⟨by first | rfl | simp, elt_lt c6 (by first | exact c7 | simpa using c7)⟩ ?_
          refine RD.brF rfl ?_
          refine RD.brF rfl ?_
          refine RD.call (CR := []) (CW := (fun r => [(100000, .box [sq eI r.2.1, .int .i64 r.2.2])])) rfl (fun _ h => pilemake_Stream_Pick.ok k r5.2.1 r5.2.2 [1, (-1), wrap64 (Int.tdiv x3 3), wrap64 (Int.tdiv (wrap64 (0 - x3)) 3), x3, wrap64 (0 - x3)] _ h) (fun i => bif Nat.beq i 100000 then 100000 else i) trivial (fun _ => rfl) ⟨_, _, _, _, rfl, rfl, rfl⟩ (LeL.cons (Le.refl _) (LeL.cons (Le.lit (E := eI) (l := [1, (-1), wrap64 (Int.tdiv x3 3), wrap64 (Int.tdiv (wrap64 (0 - x3)) 3), x3, wrap64 (0 - x3)]) (cells_of rfl)) (LeL.nil))) ⟨⟨_, rfl, LeO.refl _⟩, trivial⟩ (fun _ => rfl) (fun r8 => ?_)
          refine RD.req rfl (by first | exact Nat.zero_add _ | rfl | simp) ?_
          refine RD.br rfl (fun c9 => ?_) (fun c9 => RD.none)
          refine RD.br rfl (fun c10 => ?_) (fun c10 => RD.none)
          refine RD.req rfl ⟨by first | rfl | simp, elt_lt c9 (by first | exact c10 | simpa using c10)⟩ ?_
          refine RD.fin pilemake_Stream_RightKeyed.k0 pilemake_Stream_RightKeyed.k1 rfl rfl (by decide +kernel) ?_
          refine RS.obj 18 (bufE eI (o18.set (x21).toNat (mx 1 (wrap64 ((rd o18 x21) + r8.1))))) ⟨_, rfl, LeO.setE c9 (by first | exact c10 | simpa using c10) (all1 rfl)⟩ ?_
          refine RS.go ?_
          refine RT.goto rfl ?_
          refine RS.weak [(0, .ref 100000 0 0 0 2), (3, .int .i64 x3), (4, .osl 18 eI.w 0 (o18.set (x21).toNat (mx 1 (wrap64 ((rd o18 x21) + r8.1)))).length (o18.set (x21).toNat (mx 1 (wrap64 ((rd o18 x21) + r8.1)))).length), (20, .int .i64 x20), (21, .int .i64 x21)] [(18, bufE eI (o18.set (x21).toNat (mx 1 (wrap64 ((rd o18 x21) + r8.1))))), (100000, .box [sq eI r8.2.1, .int .i64 r8.2.2])] ⟨Le.eq (by first | rfl | simp), Le.eq (by first | rfl | simp), (by first | exact Le.oslN rfl (by first | rfl | simp) | exact Le.refl _ | exact Le.eq (by first | rfl | simp)), Le.eq (by first | rfl | simp), Le.eq (by first | rfl | simp), trivial⟩ ⟨⟨_, rfl, LeO.refl _⟩, ⟨_, rfl, LeO.refl _⟩, trivial⟩ rfl (dom_of rfl) ?_
          exact ih.1 x3 x20 x21 (o18.set (x21).toNat (mx 1 (wrap64 ((rd o18 x21) + r8.1)))) r8.2.1 r8.2.2 
        · refine RT.goto rfl ?_
          refine RS.weak [(0, .ref 100000 0 0 0 2), (3, .int .i64 x3), (4, .osl 18 eI.w 0 o18.length o18.length), (20, .int .i64 x20), (21, .int .i64 x21)] [(18, bufE eI o18), (100000, .box [sq eI r5.2.1, .int .i64 r5.2.2])] ⟨Le.eq (by first | rfl | simp), Le.eq (by first | rfl | simp), (by first | exact Le.oslN rfl (by first | rfl | simp) | exact Le.refl _ | exact Le.eq (by first | rfl | simp)), Le.eq (by first | rfl | simp), Le.eq (by first | rfl | simp), trivial⟩ ⟨⟨_, rfl, LeO.refl _⟩, ⟨_, rfl, LeO.refl _⟩, trivial⟩ rfl (dom_of rfl) ?_
          exact ih.1 x3 x20 x21 o18 r5.2.1 r5.2.2 
      · exact RT.done rfl rfl (Le.refl _) ⟨⟨_, rfl, LeO.refl _⟩, ⟨⟨_, rfl, LeO.refl _⟩, trivial⟩⟩ rfl (dom_of rfl)
theorem pilemake_Stream_RightKeyed.ok (k : Nat) (p0_0 : List Int) (p0_1 : Int) (r : (List Int) × (List Int) × Int) (h : pilemake_Stream_RightKeyed.f k p0_0 p0_1 = some r) : Ct Tryd.prog B 44 [.ref 100000 0 0 0 2] (ofL [(100000, .box [sq eI p0_0, .int .i64 p0_1])]) (.osl 18 eI.w 0 r.1.length r.1.length) (ofL [(100000, .box [sq eI r.2.1, .int .i64 r.2.2]), (18, bufE eI r.1)]) := by
  refine Ct.of (Y := (fam Tryd.f44 [8] [] [(100000, .box [sq eI p0_0, .int .i64 p0_1])] (fun r : (List Int) × (List Int) × Int => .osl 18 eI.w 0 r.1.length r.1.length) (fun r => [(100000, .box [sq eI r.2.1, .int .i64 r.2.2]), (18, bufE eI r.1)]))) Tryd.func44 rfl Tryd.call44 rfl rfl ?_ r h
  unfold pilemake_Stream_RightKeyed.f
  refine RS.go ?_
  refine RT.goto rfl ?_
  refine RS.slot 7 (sq eI [1, 20, 60, 100]) (Le.lit (E := eI) (l := [1, 20, 60, 100]) (cells_of rfl)) ?_
  refine RS.go ?_
  refine RT.call rfl (fun _ h => pilemake_Stream_Pick.ok k p0_0 p0_1 [1, 20, 60, 100] _ h) (fun i => bif Nat.beq i 100000 then 100000 else i) (LeL.eq rfl) ⟨⟨_, rfl, LeO.refl _⟩, trivial⟩ (fun _ => rfl) (fun r1 => ?_)
  refine RS.go ?_
  refine RT.goto rfl ?_
  refine RS.slot 10 (sq eS [(⟨#[101]⟩ : ByteArray), (⟨#[112, 97, 114, 105, 115]⟩ : ByteArray), (⟨#[107, 49, 97, 98, 32, 107]⟩ : ByteArray), (⟨#[116, 101, 115, 116, 32, 116]⟩ : ByteArray), (⟨#[53, 110, 110]⟩ : ByteArray), (⟨#[97, 32, 110]⟩ : ByteArray)]) (Le.lit (E := eS) (l := [(⟨#[101]⟩ : ByteArray), (⟨#[112, 97, 114, 105, 115]⟩ : ByteArray), (⟨#[107, 49, 97, 98, 32, 107]⟩ : ByteArray), (⟨#[116, 101, 115, 116, 32, 116]⟩ : ByteArray), (⟨#[53, 110, 110]⟩ : ByteArray), (⟨#[97, 32, 110]⟩ : ByteArray)]) (cells_of rfl)) ?_
  refine RS.go ?_
  refine RT.call rfl (fun _ h => pilemake_Stream_Some.ok k r1.2.1 r1.2.2 [(⟨#[101]⟩ : ByteArray), (⟨#[112, 97, 114, 105, 115]⟩ : ByteArray), (⟨#[107, 49, 97, 98, 32, 107]⟩ : ByteArray), (⟨#[116, 101, 115, 116, 32, 116]⟩ : ByteArray), (⟨#[53, 110, 110]⟩ : ByteArray), (⟨#[97, 32, 110]⟩ : ByteArray)] _ h) (fun i => bif Nat.beq i 100000 then 100000 else i) (LeL.eq rfl) ⟨⟨_, rfl, LeO.refl _⟩, trivial⟩ (fun _ => rfl) (fun r2 => ?_)
  refine RS.go ?_
  refine RT.goto rfl ?_
  refine RS.slot 15 (sq eI [1, 1, 2]) (Le.lit (E := eI) (l := [1, 1, 2]) (cells_of rfl)) ?_
  refine RS.go ?_
  refine RT.call rfl (fun _ h => pilemake_Stream_Pick.ok k r2.2.1 r2.2.2 [1, 1, 2] _ h) (fun i => bif Nat.beq i 100000 then 100000 else i) (LeL.eq rfl) ⟨⟨_, rfl, LeO.refl _⟩, trivial⟩ (fun _ => rfl) (fun r3 => ?_)
  refine RS.go ?_
  refine RT.call rfl (fun _ h => pileref1_KeyedOf.ok k r2.1 r1.1 (wrap64 (r1.1 * r3.1)) _ h) (fun i => bif Nat.beq i 7 then 18 else i) (LeL.eq rfl) trivial (fun _ => rfl) (fun r4 => ?_)
  refine RS.go ?_
  refine RT.req rfl (by first | exact Nat.zero_add _ | rfl | simp [szf, szOf]) ?_
  refine RT.goto rfl ?_
  refine RS.weak [(0, .ref 100000 0 0 0 2), (3, .int .i64 r1.1), (4, .osl 18 eI.w 0 r4.length r4.length), (20, .int .i64 (r4.length : Int)), (21, .int .i64 0)] [(18, bufE eI r4), (100000, .box [sq eI r3.2.1, .int .i64 r3.2.2])] ⟨Le.eq (by first | rfl | simp), Le.eq (by first | rfl | simp), (by first | exact Le.oslN rfl (by first | rfl | simp) | exact Le.refl _ | exact Le.eq (by first | rfl | simp)), Le.eq (by first | rfl | simp), Le.eq (by first | rfl | simp), trivial⟩ ⟨⟨_, rfl, LeO.refl _⟩, ⟨_, rfl, LeO.refl _⟩, trivial⟩ rfl (dom_of rfl) ?_
  exact (pilemake_Stream_RightKeyed.loops p0_0 p0_1 k).2 r1.1 (r4.length : Int) 0 r4 r3.2.1 r3.2.2 
/-! ### pilemake_Stream_Keyed: function 9 -/
mutual
def pilemake_Stream_Keyed.j8 : Nat → List Int → List Int → Int → Option ((List Int) × (List Int) × Int)
  | 0, _, _, _ => Option.none
  | k + 1, x3j8, o100000_0j8, o100000_1j8 => Option.some (x3j8, o100000_0j8, o100000_1j8)
def pilemake_Stream_Keyed.j6 : Nat → List Int → List Int → Int → Option ((List Int) × (List Int) × Int)
  | 0, _, _, _ => Option.none
  | k + 1, o5j6, o100000_0j6, o100000_1j6 => ((pilemake_Stream_Flip.f k o100000_0j6 o100000_1j6 30).bind fun r8 => (if r8.1 = true then pilemake_Stream_Keyed.j8 k ([] : List Int) r8.2.1 r8.2.2 else pilemake_Stream_Keyed.j8 k o5j6 r8.2.1 r8.2.2))
def pilemake_Stream_Keyed.j4 : Nat → List Int → List Int → Int → Option ((List Int) × (List Int) × Int)
  | 0, _, _, _ => Option.none
  | k + 1, o5j4, o100000_0j4, o100000_1j4 => ((pilemake_Stream_Flip.f k o100000_0j4 o100000_1j4 25).bind fun r7 => (if r7.1 = true then (if o5j4.length + 1 ≤ 549755813888 then pilemake_Stream_Keyed.j6 k (o5j4 ++ [7]) r7.2.1 r7.2.2 else Option.none) else pilemake_Stream_Keyed.j6 k o5j4 r7.2.1 r7.2.2))
end
def pilemake_Stream_Keyed.f (k : Nat) (p0_0 : List Int) (p0_1 : Int) : Option ((List Int) × (List Int) × Int) := ((pilemake_Stream_RightKeyed.f k p0_0 p0_1).bind fun r1 => ((pilemake_Stream_Flip.f k r1.2.1 r1.2.2 15).bind fun r2 => (if r2.1 = true then ((pilemake_Stream_Next.f k r2.2.1 r2.2.2 (r1.1.length : Int)).bind fun r3 => ((pilemake_Stream_Pick.f k r3.2.1 r3.2.2 [0, 5, 100000, 100001]).bind fun r4 => (if 0 ≤ r3.1 then (if r3.1 < (r1.1.length : Int) then pilemake_Stream_Keyed.j4 k (r1.1.set (r3.1).toNat r4.1) r4.2.1 r4.2.2 else Option.none) else Option.none))) else pilemake_Stream_Keyed.j4 k r1.1 r2.2.1 r2.2.2)))
theorem pilemake_Stream_Keyed.loops (p0_0 : List Int) (p0_1 : Int) : ∀ k, (∀ (x3j8 : List Int) (o100000_0j8 : List Int) (o100000_1j8 : Int), RS (fam Tryd.f9 [4, 6, 8] [] [(100000, .box [sq eI p0_0, .int .i64 p0_1])] (fun r : (List Int) × (List Int) × Int => sq eI r.1) (fun r => [(100000, .box [sq eI r.2.1, .int .i64 r.2.2])])) (Func.reg Tryd.f9 8) ⟨ofT [(3, sq eI x3j8)], ofL [(100000, .box [sq eI o100000_0j8, .int .i64 o100000_1j8])]⟩ (pilemake_Stream_Keyed.j8 k x3j8 o100000_0j8 o100000_1j8)) ∧ (∀ (o5j6 : List Int) (o100000_0j6 : List Int) (o100000_1j6 : Int), RS (fam Tryd.f9 [4, 6, 8] [] [(100000, .box [sq eI p0_0, .int .i64 p0_1])] (fun r : (List Int) × (List Int) × Int => sq eI r.1) (fun r => [(100000, .box [sq eI r.2.1, .int .i64 r.2.2])])) (Func.reg Tryd.f9 6) ⟨ofT [(0, .ref 100000 0 0 0 2), (3, .osl 5 eI.w 0 o5j6.length o5j6.length)], ofL [(5, bufE eI o5j6), (100000, .box [sq eI o100000_0j6, .int .i64 o100000_1j6])]⟩ (pilemake_Stream_Keyed.j6 k o5j6 o100000_0j6 o100000_1j6)) ∧ (∀ (o5j4 : List Int) (o100000_0j4 : List Int) (o100000_1j4 : Int), RS (fam Tryd.f9 [4, 6, 8] [] [(100000, .box [sq eI p0_0, .int .i64 p0_1])] (fun r : (List Int) × (List Int) × Int => sq eI r.1) (fun r => [(100000, .box [sq eI r.2.1, .int .i64 r.2.2])])) (Func.reg Tryd.f9 4) ⟨ofT [(0, .ref 100000 0 0 0 2), (3, .osl 5 eI.w 0 o5j4.length o5j4.length)], ofL [(5, bufE eI o5j4), (100000, .box [sq eI o100000_0j4, .int .i64 o100000_1j4])]⟩ (pilemake_Stream_Keyed.j4 k o5j4 o100000_0j4 o100000_1j4))
  | 0 => ⟨by intro _ _ _; simp only [pilemake_Stream_Keyed.j8]; exact RS.none, by intro _ _ _; simp only [pilemake_Stream_Keyed.j6]; exact RS.none, by intro _ _ _; simp only [pilemake_Stream_Keyed.j4]; exact RS.none⟩
  | k + 1 => by
    have ih := pilemake_Stream_Keyed.loops p0_0 p0_1 k
    refine ⟨?_, ?_, ?_⟩
    · intro x3j8 o100000_0j8 o100000_1j8
      simp only [pilemake_Stream_Keyed.j8]
      refine RS.region ?_
      refine RS.go ?_
      exact RT.done rfl rfl (Le.refl _) ⟨⟨_, rfl, LeO.refl _⟩, trivial⟩ rfl (dom_of rfl)
    · intro o5j6 o100000_0j6 o100000_1j6
      simp only [pilemake_Stream_Keyed.j6]
      refine RS.region ?_
      refine RS.go ?_
      refine RT.call rfl (fun _ h => pilemake_Stream_Flip.ok k o100000_0j6 o100000_1j6 30 _ h) (fun i => bif Nat.beq i 100000 then 100000 else i) (LeL.eq rfl) ⟨⟨_, rfl, LeO.refl _⟩, trivial⟩ (fun _ => rfl) (fun r8 => ?_)
      refine RS.go ?_
      refine RT.brB rfl (fun c9 => ?_) (fun c9 => ?_)
      · refine RT.goto rfl ?_
        refine RS.slot 3 (sq eI ([] : List Int)) (Le.nil _ _) ?_
        refine RS.weak [(3, sq eI ([] : List Int))] [(100000, .box [sq eI r8.2.1, .int .i64 r8.2.2])] ⟨Le.eq (by first | rfl | simp), trivial⟩ ⟨⟨_, rfl, LeO.refl _⟩, trivial⟩ rfl (dom_of rfl) ?_
        exact ih.1 ([] : List Int) r8.2.1 r8.2.2 
      · refine RT.goto rfl ?_
        refine RS.freeze 5 _ _ _ [(3, sq eI o5j6)] [(100000, .box [sq eI r8.2.1, .int .i64 r8.2.2])] rfl ⟨.inr ⟨_, rfl, by first | exact Nat.le_refl _ | simp, rfl⟩, trivial⟩ ⟨⟨_, rfl, LeO.refl _⟩, trivial⟩ rfl (dom_of rfl) ?_
        refine RS.weak [(3, sq eI o5j6)] [(100000, .box [sq eI r8.2.1, .int .i64 r8.2.2])] ⟨Le.eq (by first | rfl | simp), trivial⟩ ⟨⟨_, rfl, LeO.refl _⟩, trivial⟩ rfl (dom_of rfl) ?_
        exact ih.1 o5j6 r8.2.1 r8.2.2 
    · intro o5j4 o100000_0j4 o100000_1j4
      simp only [pilemake_Stream_Keyed.j4]
      refine RS.region ?_
      refine RS.go ?_
      refine RT.call rfl (fun _ h => pilemake_Stream_Flip.ok k o100000_0j4 o100000_1j4 25 _ h) (fun i => bif Nat.beq i 100000 then 100000 else i) (LeL.eq rfl) ⟨⟨_, rfl, LeO.refl _⟩, trivial⟩ (fun _ => rfl) (fun r7 => ?_)
      refine RS.go ?_
      refine RT.brB rfl (fun c11 => ?_) (fun c11 => ?_)
      · refine RT.goto rfl ?_
        refine RS.slot 20 (sq eI [7]) (Le.lit (E := eI) (l := [7]) (cells_of rfl)) ?_
        refine RS.go ?_
        refine RT.req rfl ⟨by first | rfl | simp, by first | exact Nat.le_refl _ | simp⟩ ?_
        refine RT.not rfl (by simp <;> omega) ?_
        refine RT.br rfl (fun c10 => ?_) (fun _ => RT.none)
        refine RT.goto rfl ?_
        refine RS.obj 5 (bufE eI (o5j4 ++ [7])) ⟨_, rfl, LeO.app (l := o5j4) (m := [7]) fun _ _ _ _ => rfl⟩ ?_
        refine RS.slot 21 (.osl 5 eI.w 0 (o5j4 ++ [7]).length (o5j4 ++ [7]).length) (by first | exact Le.oslN rfl (by simp) | exact Le.trans (y := .osl 5 eI.w 0 (o5j4.length + 1) (o5j4.length + 1)) (Le.refl _) (Le.oslN rfl (by simp))) ?_
        refine RS.go ?_
        refine RT.goto rfl ?_
        refine RS.weak [(0, .ref 100000 0 0 0 2), (3, .osl 5 eI.w 0 (o5j4 ++ [7]).length (o5j4 ++ [7]).length)] [(5, bufE eI (o5j4 ++ [7])), (100000, .box [sq eI r7.2.1, .int .i64 r7.2.2])] ⟨Le.eq (by first | rfl | simp), (by first | exact Le.oslN rfl (by first | rfl | simp) | exact Le.refl _ | exact Le.eq (by first | rfl | simp)), trivial⟩ ⟨⟨_, rfl, LeO.refl _⟩, ⟨_, rfl, LeO.refl _⟩, trivial⟩ rfl (dom_of rfl) ?_
        exact ih.2.1 (o5j4 ++ [7]) r7.2.1 r7.2.2 
      · refine RT.goto rfl ?_
        refine RS.weak [(0, .ref 100000 0 0 0 2), (3, .osl 5 eI.w 0 o5j4.length o5j4.length)] [(5, bufE eI o5j4), (100000, .box [sq eI r7.2.1, .int .i64 r7.2.2])] ⟨Le.eq (by first | rfl | simp), (by first | exact Le.oslN rfl (by first | rfl | simp) | exact Le.refl _ | exact Le.eq (by first | rfl | simp)), trivial⟩ ⟨⟨_, rfl, LeO.refl _⟩, ⟨_, rfl, LeO.refl _⟩, trivial⟩ rfl (dom_of rfl) ?_
        exact ih.2.1 o5j4 r7.2.1 r7.2.2 
theorem pilemake_Stream_Keyed.ok (k : Nat) (p0_0 : List Int) (p0_1 : Int) (r : (List Int) × (List Int) × Int) (h : pilemake_Stream_Keyed.f k p0_0 p0_1 = some r) : Ct Tryd.prog B 9 [.ref 100000 0 0 0 2] (ofL [(100000, .box [sq eI p0_0, .int .i64 p0_1])]) (sq eI r.1) (ofL [(100000, .box [sq eI r.2.1, .int .i64 r.2.2])]) := by
  refine Ct.of (Y := (fam Tryd.f9 [4, 6, 8] [] [(100000, .box [sq eI p0_0, .int .i64 p0_1])] (fun r : (List Int) × (List Int) × Int => sq eI r.1) (fun r => [(100000, .box [sq eI r.2.1, .int .i64 r.2.2])]))) Tryd.func9 rfl Tryd.call9 rfl rfl ?_ r h
  unfold pilemake_Stream_Keyed.f
  refine RS.go ?_
  refine RT.call rfl (fun _ h => pilemake_Stream_RightKeyed.ok k p0_0 p0_1 _ h) (fun i => bif Nat.beq i 18 then 5 else bif Nat.beq i 100000 then 100000 else i) (LeL.eq rfl) ⟨⟨_, rfl, LeO.refl _⟩, trivial⟩ (fun _ => rfl) (fun r1 => ?_)
  refine RS.go ?_
  refine RT.call rfl (fun _ h => pilemake_Stream_Flip.ok k r1.2.1 r1.2.2 15 _ h) (fun i => bif Nat.beq i 100000 then 100000 else i) (LeL.eq rfl) ⟨⟨_, rfl, LeO.refl _⟩, trivial⟩ (fun _ => rfl) (fun r2 => ?_)
  refine RS.go ?_
  refine RT.brB rfl (fun c12 => ?_) (fun c12 => ?_)
  · refine RT.req rfl (by first | exact Nat.zero_add _ | rfl | simp [szf, szOf]) ?_
    refine RT.call rfl (fun _ h => pilemake_Stream_Next.ok k r2.2.1 r2.2.2 (r1.1.length : Int) _ h) (fun i => bif Nat.beq i 100000 then 100000 else i) (LeL.eq rfl) ⟨⟨_, rfl, LeO.refl _⟩, trivial⟩ (fun _ => rfl) (fun r3 => ?_)
    refine RS.go ?_
    refine RT.goto rfl ?_
    refine RS.slot 14 (sq eI [0, 5, 100000, 100001]) (Le.lit (E := eI) (l := [0, 5, 100000, 100001]) (cells_of rfl)) ?_
    refine RS.go ?_
    refine RT.call rfl (fun _ h => pilemake_Stream_Pick.ok k r3.2.1 r3.2.2 [0, 5, 100000, 100001] _ h) (fun i => bif Nat.beq i 100000 then 100000 else i) (LeL.eq rfl) ⟨⟨_, rfl, LeO.refl _⟩, trivial⟩ (fun _ => rfl) (fun r4 => ?_)
    refine RS.go ?_
    refine RT.req rfl (by first | exact Nat.zero_add _ | rfl | simp) ?_
    refine RT.br rfl (fun c5 => ?_) (fun c5 => RT.none)
    refine RT.br rfl (fun c6 => ?_) (fun c6 => RT.none)
    refine RT.req rfl ⟨by first | rfl | simp, elt_lt c5 (by first | exact c6 | simpa using c6)⟩ ?_
    refine RT.goto rfl ?_
    refine RS.obj 5 (bufE eI (r1.1.set (r3.1).toNat r4.1)) ⟨_, rfl, LeO.setE c5 (by first | exact c6 | simpa using c6) (all1 rfl)⟩ ?_
    refine RS.go ?_
    refine RT.goto rfl ?_
    refine RS.weak [(0, .ref 100000 0 0 0 2), (3, .osl 5 eI.w 0 (r1.1.set (r3.1).toNat r4.1).length (r1.1.set (r3.1).toNat r4.1).length)] [(5, bufE eI (r1.1.set (r3.1).toNat r4.1)), (100000, .box [sq eI r4.2.1, .int .i64 r4.2.2])] ⟨Le.eq (by first | rfl | simp), (by first | exact Le.oslN rfl (by first | rfl | simp) | exact Le.refl _ | exact Le.eq (by first | rfl | simp)), trivial⟩ ⟨⟨_, rfl, LeO.refl _⟩, ⟨_, rfl, LeO.refl _⟩, trivial⟩ rfl (dom_of rfl) ?_
    exact (pilemake_Stream_Keyed.loops p0_0 p0_1 k).2.2 (r1.1.set (r3.1).toNat r4.1) r4.2.1 r4.2.2 
  · refine RT.goto rfl ?_
    refine RS.weak [(0, .ref 100000 0 0 0 2), (3, .osl 5 eI.w 0 r1.1.length r1.1.length)] [(5, bufE eI r1.1), (100000, .box [sq eI r2.2.1, .int .i64 r2.2.2])] ⟨Le.eq (by first | rfl | simp), (by first | exact Le.oslN rfl (by first | rfl | simp) | exact Le.refl _ | exact Le.eq (by first | rfl | simp)), trivial⟩ ⟨⟨_, rfl, LeO.refl _⟩, ⟨_, rfl, LeO.refl _⟩, trivial⟩ rfl (dom_of rfl) ?_
    exact (pilemake_Stream_Keyed.loops p0_0 p0_1 k).2.2 r1.1 r2.2.1 r2.2.2 
/-! ### pileref1_in: function 64 -/
def pileref1_in.f (a0 : Int) (a1 : Int) (a2 : Int) : Option (Bool) := (if a1 ≤ a0 then Option.some (decide (a0 ≤ a2)) else Option.some false)
theorem pileref1_in.ok (a0 : Int) (a1 : Int) (a2 : Int) (r : Bool) (h : pileref1_in.f a0 a1 a2 = some r) : Ct Tryd.prog B 64 [.int .i64 a0, .int .i64 a1, .int .i64 a2] (ofL []) (.bool r) (ofL []) := by
  refine Ct.of (Y := (fam Tryd.f64 [] [] [] (fun r : Bool => .bool r) (fun r => []))) Tryd.func64 rfl Tryd.call64 rfl rfl ?_ r h
  unfold pileref1_in.f
  refine RS.go ?_
  refine RT.br rfl (fun c1 => ?_) (fun c1 => ?_)
  · refine RT.brT rfl ?_
    refine RT.brT rfl ?_
    refine RT.brT rfl ?_
    exact RT.done rfl rfl (Le.refl _) trivial rfl (dom0 rfl)
  · refine RT.brF rfl ?_
    refine RT.brF rfl ?_
    refine RT.brF rfl ?_
    exact RT.done rfl rfl (Le.refl _) trivial rfl (dom0 rfl)
/-! ### pileref1_SpanFault: function 18 -/
def pileref1_SpanFault.f (a0 : Int) (a1 : Int) (a2 : Int) : Option (Int) := ((pileref1_in.f a0 a1 a2).bind fun r1 => (if r1 = true then Option.some 0 else Option.some 1))
theorem pileref1_SpanFault.ok (a0 : Int) (a1 : Int) (a2 : Int) (r : Int) (h : pileref1_SpanFault.f a0 a1 a2 = some r) : Ct Tryd.prog B 18 [.int .i64 a0, .int .i64 a1, .int .i64 a2] (ofL []) (.int .i64 r) (ofL []) := by
  refine Ct.of (Y := (fam Tryd.f18 [] [] [] (fun r : Int => .int .i64 r) (fun r => []))) Tryd.func18 rfl Tryd.call18 rfl rfl ?_ r h
  unfold pileref1_SpanFault.f
  refine RS.go ?_
  refine RT.call0 rfl (fun _ h => pileref1_in.ok a0 a1 a2 _ h) (LeL.eq rfl) (fun _ => rfl) (fun r1 => ?_)
  refine RS.go ?_
  refine RT.brBN rfl (fun c2 => ?_) (fun c2 => ?_)
  · exact RT.done rfl rfl (Le.refl _) trivial rfl (dom0 rfl)
  · exact RT.done rfl rfl (Le.refl _) trivial rfl (dom0 rfl)
/-! ### pileref1_MarksFault: function 11 -/
def pileref1_MarksFault.l0 : Nat → List Int → Int → Option (Int)
  | 0, _, _ => Option.none
  | k + 1, l0, x21 => (if x21 < (l0.length : Int) then (if 0 ≤ x21 then (if x21 < (l0.length : Int) then ((pileref1_SpanFault.f (rd l0 x21) 1 100000).bind fun r3 => (if r3 = 0 then pileref1_MarksFault.l0 k l0 (wrap64 (x21 + 1)) else Option.some r3)) else Option.none) else Option.none) else Option.some 0)
def pileref1_MarksFault.f (k : Nat) (l0 : List Int) : Option (Int) := (if (l0.length : Int) = 0 then Option.some 8 else (if (l0.length : Int) > 20000 then Option.some 2 else (if Int.tmod (l0.length : Int) 2 = 0 then Option.some 3 else pileref1_MarksFault.l0 k l0 0)))
theorem pileref1_MarksFault.loops : ∀ k, (∀ (l0 : List Int) (x21 : Int), RS (fam Tryd.f11 [] [] [] (fun r : Int => .int .i64 r) (fun r => [])) (Func.head Tryd.f11 0) ⟨ofT [(19, sq eI l0), (20, .int .i64 (l0.length : Int)), (21, .int .i64 x21)], ofL []⟩ (pileref1_MarksFault.l0 k l0 x21))
  | 0 => by intro _ _; simp only [pileref1_MarksFault.l0]; exact RS.none
  | k + 1 => by
    have ih := pileref1_MarksFault.loops k
    · intro l0 x21
      simp only [pileref1_MarksFault.l0]
      refine RS.go ?_
      refine RT.br rfl (fun c5 => ?_) (fun c5 => ?_)
      · refine RT.br rfl (fun c1 => ?_) (fun c1 => RT.none)
        refine RT.br rfl (fun c2 => ?_) (fun c2 => RT.none)
        refine RT.call0 rfl (fun _ h => pileref1_SpanFault.ok (rd l0 x21) 1 100000 _ h) (LeL.eq rfl) (fun _ => rfl) (fun r3 => ?_)
        refine RS.go ?_
        refine RT.brN rfl (fun c4 => ?_) (fun c4 => ?_)
        · refine RT.goto rfl ?_
          refine RS.weak [(19, sq eI l0), (20, .int .i64 (l0.length : Int)), (21, .int .i64 (wrap64 (x21 + 1)))] [] ⟨Le.eq (by first | rfl | simp), Le.eq (by first | rfl | simp), Le.eq (by first | rfl | simp), trivial⟩ trivial rfl (dom0 rfl) ?_
          exact ih l0 (wrap64 (x21 + 1)) 
        · exact RT.done rfl rfl (Le.refl _) trivial rfl (dom0 rfl)
      · exact RT.done rfl rfl (Le.refl _) trivial rfl (dom0 rfl)
theorem pileref1_MarksFault.ok (k : Nat) (l0 : List Int) (r : Int) (h : pileref1_MarksFault.f k l0 = some r) : Ct Tryd.prog B 11 [sq eI l0] (ofL []) (.int .i64 r) (ofL []) := by
  refine Ct.of (Y := (fam Tryd.f11 [] [] [] (fun r : Int => .int .i64 r) (fun r => []))) Tryd.func11 rfl Tryd.call11 rfl rfl ?_ r h
  unfold pileref1_MarksFault.f
  refine RS.go ?_
  refine RT.br rfl (fun c8 => ?_) (fun c8 => ?_)
  · exact RT.done rfl rfl (Le.refl _) trivial rfl (dom0 rfl)
  · refine RT.br rfl (fun c7 => ?_) (fun c7 => ?_)
    · exact RT.done rfl rfl (Le.refl _) trivial rfl (dom0 rfl)
    · refine RT.brF rfl ?_
      refine RT.br rfl (fun c6 => ?_) (fun c6 => ?_)
      · exact RT.done rfl rfl (Le.refl _) trivial rfl (dom0 rfl)
      · refine RT.goto rfl ?_
        refine RS.weak [(19, sq eI l0), (20, .int .i64 (l0.length : Int)), (21, .int .i64 0)] [] ⟨Le.eq (by first | rfl | simp), Le.eq (by first | rfl | simp), Le.eq (by first | rfl | simp), trivial⟩ trivial rfl (dom0 rfl) ?_
        exact pileref1_MarksFault.loops k l0 0 
/-! ### kit_Outside: function 55 -/
def kit_Outside.f (a0 : Int) (a1 : Int) (a2 : Int) : Option (Bool) := (if a0 < a1 then Option.some true else Option.some (decide (a0 > a2)))
theorem kit_Outside.ok (a0 : Int) (a1 : Int) (a2 : Int) (r : Bool) (h : kit_Outside.f a0 a1 a2 = some r) : Ct Tryd.prog B 55 [.int .i64 a0, .int .i64 a1, .int .i64 a2] (ofL []) (.bool r) (ofL []) := by
  refine Ct.of (Y := (fam Tryd.f55 [] [] [] (fun r : Bool => .bool r) (fun r => []))) Tryd.func55 rfl Tryd.call55 rfl rfl ?_ r h
  unfold kit_Outside.f
  refine RS.go ?_
  refine RT.br rfl (fun c1 => ?_) (fun c1 => ?_)
  · refine RT.brT rfl ?_
    refine RT.brT rfl ?_
    refine RT.brT rfl ?_
    exact RT.done rfl rfl (Le.refl _) trivial rfl (dom0 rfl)
  · refine RT.brF rfl ?_
    refine RT.brF rfl ?_
    refine RT.brF rfl ?_
    exact RT.done rfl rfl (Le.refl _) trivial rfl (dom0 rfl)
/-! ### key_CheckMarks_1: function 54 -/
def key_CheckMarks_1.f (a0 : Int) : Option (Bool) := ((kit_Outside.f a0 1 100000).bind fun r1 => Option.some r1)
theorem key_CheckMarks_1.ok (a0 : Int) (r : Bool) (h : key_CheckMarks_1.f a0 = some r) : Ct Tryd.prog B 54 [.int .i64 a0] (ofL []) (.bool r) (ofL []) := by
  refine Ct.of (Y := (fam Tryd.f54 [] [] [] (fun r : Bool => .bool r) (fun r => []))) Tryd.func54 rfl Tryd.call54 rfl rfl ?_ r h
  unfold key_CheckMarks_1.f
  refine RS.go ?_
  refine RT.call0 rfl (fun _ h => kit_Outside.ok a0 1 100000 _ h) (LeL.eq rfl) (fun _ => rfl) (fun r1 => ?_)
  refine RS.go ?_
  exact RT.done rfl rfl (Le.refl _) trivial rfl (dom0 rfl)
/-! ### slices_IndexFunc_int_int_of_key_CheckMarks_1: function 97 -/
def slices_IndexFunc_int_int_of_key_CheckMarks_1.l0 : Nat → List Int → Int → Option (Int)
  | 0, _, _ => Option.none
  | k + 1, l0, x8 => (if x8 < (l0.length : Int) then (if 0 ≤ x8 then (if x8 < (l0.length : Int) then ((key_CheckMarks_1.f (rd l0 x8)).bind fun r3 => (if r3 = true then Option.some x8 else slices_IndexFunc_int_int_of_key_CheckMarks_1.l0 k l0 (wrap64 (x8 + 1)))) else Option.none) else Option.none) else Option.some (-1))
def slices_IndexFunc_int_int_of_key_CheckMarks_1.f (k : Nat) (l0 : List Int) : Option (Int) := slices_IndexFunc_int_int_of_key_CheckMarks_1.l0 k l0 0
theorem slices_IndexFunc_int_int_of_key_CheckMarks_1.loops : ∀ k, (∀ (l0 : List Int) (x8 : Int), RS (fam Tryd.f97 [] [] [] (fun r : Int => .int .i64 r) (fun r => [])) (Func.head Tryd.f97 0) ⟨ofT [(0, sq eI l0), (1, .fn 54 []), (7, .int .i64 (l0.length : Int)), (8, .int .i64 x8)], ofL []⟩ (slices_IndexFunc_int_int_of_key_CheckMarks_1.l0 k l0 x8))
  | 0 => by intro _ _; simp only [slices_IndexFunc_int_int_of_key_CheckMarks_1.l0]; exact RS.none
  | k + 1 => by
    have ih := slices_IndexFunc_int_int_of_key_CheckMarks_1.loops k
    · intro l0 x8
      simp only [slices_IndexFunc_int_int_of_key_CheckMarks_1.l0]
      refine RS.go ?_
      refine RT.br rfl (fun c5 => ?_) (fun c5 => ?_)
      · refine RT.br rfl (fun c1 => ?_) (fun c1 => RT.none)
        refine RT.br rfl (fun c2 => ?_) (fun c2 => RT.none)
        refine RT.call0 rfl (fun _ h => key_CheckMarks_1.ok (rd l0 x8) _ h) (LeL.eq rfl) (fun _ => rfl) (fun r3 => ?_)
        refine RS.go ?_
        refine RT.brB rfl (fun c4 => ?_) (fun c4 => ?_)
        · exact RT.done rfl rfl (Le.refl _) trivial rfl (dom0 rfl)
        · refine RT.goto rfl ?_
          refine RS.weak [(0, sq eI l0), (1, .fn 54 []), (7, .int .i64 (l0.length : Int)), (8, .int .i64 (wrap64 (x8 + 1)))] [] ⟨Le.eq (by first | rfl | simp), Le.eq (by first | rfl | simp), Le.eq (by first | rfl | simp), Le.eq (by first | rfl | simp), trivial⟩ trivial rfl (dom0 rfl) ?_
          exact ih l0 (wrap64 (x8 + 1)) 
      · exact RT.done rfl rfl (Le.refl _) trivial rfl (dom0 rfl)
theorem slices_IndexFunc_int_int_of_key_CheckMarks_1.ok (k : Nat) (l0 : List Int) (r : Int) (h : slices_IndexFunc_int_int_of_key_CheckMarks_1.f k l0 = some r) : Ct Tryd.prog B 97 [sq eI l0, .fn 54 []] (ofL []) (.int .i64 r) (ofL []) := by
  refine Ct.of (Y := (fam Tryd.f97 [] [] [] (fun r : Int => .int .i64 r) (fun r => []))) Tryd.func97 rfl Tryd.call97 rfl rfl ?_ r h
  unfold slices_IndexFunc_int_int_of_key_CheckMarks_1.f
  refine RS.go ?_
  refine RT.goto rfl ?_
  refine RS.weak [(0, sq eI l0), (1, .fn 54 []), (7, .int .i64 (l0.length : Int)), (8, .int .i64 0)] [] ⟨Le.eq (by first | rfl | simp), Le.eq (by first | rfl | simp), Le.eq (by first | rfl | simp), Le.eq (by first | rfl | simp), trivial⟩ trivial rfl (dom0 rfl) ?_
  exact slices_IndexFunc_int_int_of_key_CheckMarks_1.loops k l0 0 
/-! ### slices_ContainsFunc_int_int_of_key_CheckMarks_1: function 53 -/
def slices_ContainsFunc_int_int_of_key_CheckMarks_1.f (k : Nat) (l0 : List Int) : Option (Bool) := ((slices_IndexFunc_int_int_of_key_CheckMarks_1.f k l0).bind fun r1 => Option.some (decide (r1 ≥ 0)))
theorem slices_ContainsFunc_int_int_of_key_CheckMarks_1.ok (k : Nat) (l0 : List Int) (r : Bool) (h : slices_ContainsFunc_int_int_of_key_CheckMarks_1.f k l0 = some r) : Ct Tryd.prog B 53 [sq eI l0, .fn 54 []] (ofL []) (.bool r) (ofL []) := by
  refine Ct.of (Y := (fam Tryd.f53 [] [] [] (fun r : Bool => .bool r) (fun r => []))) Tryd.func53 rfl Tryd.call53 rfl rfl ?_ r h
  unfold slices_ContainsFunc_int_int_of_key_CheckMarks_1.f
  refine RS.go ?_
  refine RT.call0 rfl (fun _ h => slices_IndexFunc_int_int_of_key_CheckMarks_1.ok k l0 _ h) (LeL.eq rfl) (fun _ => rfl) (fun r1 => ?_)
  refine RS.go ?_
  exact RT.done rfl rfl (Le.refl _) trivial rfl (dom0 rfl)
/-! ### key_CheckMarks: function 12 -/
def key_CheckMarks.f (k : Nat) (l0 : List Int) : Option (Int) := (if (l0.length : Int) = 0 then Option.some 8 else (if (l0.length : Int) > 20000 then Option.some 2 else (if Int.tmod (l0.length : Int) 2 = 0 then Option.some 3 else ((slices_ContainsFunc_int_int_of_key_CheckMarks_1.f k l0).bind fun r1 => (if r1 = true then Option.some 1 else Option.some 0)))))
theorem key_CheckMarks.ok (k : Nat) (l0 : List Int) (r : Int) (h : key_CheckMarks.f k l0 = some r) : Ct Tryd.prog B 12 [sq eI l0] (ofL []) (.int .i64 r) (ofL []) := by
  refine Ct.of (Y := (fam Tryd.f12 [] [] [] (fun r : Int => .int .i64 r) (fun r => []))) Tryd.func12 rfl Tryd.call12 rfl rfl ?_ r h
  unfold key_CheckMarks.f
  refine RS.go ?_
  refine RT.br rfl (fun c5 => ?_) (fun c5 => ?_)
  · exact RT.done rfl rfl (Le.refl _) trivial rfl (dom0 rfl)
  · refine RT.br rfl (fun c4 => ?_) (fun c4 => ?_)
    · exact RT.done rfl rfl (Le.refl _) trivial rfl (dom0 rfl)
    · refine RT.brF rfl ?_
      refine RT.br rfl (fun c3 => ?_) (fun c3 => ?_)
      · exact RT.done rfl rfl (Le.refl _) trivial rfl (dom0 rfl)
      · refine RT.call0 rfl (fun _ h => slices_ContainsFunc_int_int_of_key_CheckMarks_1.ok k l0 _ h) (LeL.eq rfl) (fun _ => rfl) (fun r1 => ?_)
        refine RS.go ?_
        refine RT.brB rfl (fun c2 => ?_) (fun c2 => ?_)
        · exact RT.done rfl rfl (Le.refl _) trivial rfl (dom0 rfl)
        · exact RT.done rfl rfl (Le.refl _) trivial rfl (dom0 rfl)
/-! ### key_unitFault: function 56 -/
def key_unitFault.f (k : Nat) (l0 : List Int) (a1 : Int) : Option (Int) := ((key_CheckMarks.f k l0).bind fun r1 => (if r1 = 0 then ((kit_Outside.f a1 1 2000).bind fun r2 => (if r2 = true then Option.some 1 else Option.some 0)) else Option.some r1))
theorem key_unitFault.ok (k : Nat) (l0 : List Int) (a1 : Int) (r : Int) (h : key_unitFault.f k l0 a1 = some r) : Ct Tryd.prog B 56 [sq eI l0, .int .i64 a1] (ofL []) (.int .i64 r) (ofL []) := by
  refine Ct.of (Y := (fam Tryd.f56 [] [] [] (fun r : Int => .int .i64 r) (fun r => []))) Tryd.func56 rfl Tryd.call56 rfl rfl ?_ r h
  unfold key_unitFault.f
  refine RS.go ?_
  refine RT.call0 rfl (fun _ h => key_CheckMarks.ok k l0 _ h) (LeL.eq rfl) (fun _ => rfl) (fun r1 => ?_)
  refine RS.go ?_
  refine RT.brN rfl (fun c4 => ?_) (fun c4 => ?_)
  · refine RT.call0 rfl (fun _ h => kit_Outside.ok a1 1 2000 _ h) (LeL.eq rfl) (fun _ => rfl) (fun r2 => ?_)
    refine RS.go ?_
    refine RT.brB rfl (fun c3 => ?_) (fun c3 => ?_)
    · exact RT.done rfl rfl (Le.refl _) trivial rfl (dom0 rfl)
    · exact RT.done rfl rfl (Le.refl _) trivial rfl (dom0 rfl)
  · exact RT.done rfl rfl (Le.refl _) trivial rfl (dom0 rfl)
def strings_Fields.f (a0 : ByteArray) : Option (List ByteArray) := if a0.size < 4294967281 ∧ asciiT a0 = true then some ((Lib.fields a0.data.toList).map fun l => ⟨l.toArray⟩) else none
theorem strings_Fields.ok (a0 : ByteArray) (r : List ByteArray) (h : strings_Fields.f a0 = some r) : Ct Tryd.prog B 82 [.str a0] (ofL []) (sq eS r) (ofL []) := by
  unfold strings_Fields.f at h
  split at h
  case isFalse => cases h
  case isTrue c =>
  cases h
  refine Ct.libS Tryd.call82 rfl fun g w hb => ?_
  refine (Tryd.strings_Fields a0 w c.1 (asciiT_at c.2) (hbAsc hb)).mono fun e w' ⟨he, hw⟩ => ⟨_, he, ?_⟩
  subst hw
  have key : ∀ T, NewSl eS ((Lib.fields a0.data.toList).map fun l => (⟨l.toArray⟩ : ByteArray)) w (.slice (some ⟨w.heap.size, 0, none⟩) (Lib.fields a0.data.toList).length (Lib.fields a0.data.toList).length) (w.alloc (.cells ((Lib.fields a0.data.toList).map fun l => Value.string ⟨l.toArray⟩).toArray T)) := fun T => by
    have := newS (w := w) (T := T) (l := (Lib.fields a0.data.toList).map fun l => (⟨l.toArray⟩ : ByteArray)) (n := (Lib.fields a0.data.toList).length) (by simp)
    rwa [List.map_map] at this
  exact key _

/-! ### key_Codes: function 32 -/
def key_Codes.k0 : List DK := [⟨[23], [], [2], []⟩, ⟨[11, 22], [23, 2], [23], [2]⟩, ⟨[21], [22], [22], []⟩, ⟨[15, 20], [], [21], []⟩, ⟨[19], [], [20], []⟩, ⟨[16, 18], [], [19], []⟩, ⟨[17], [], [18], []⟩, ⟨[3], [], [17], []⟩, ⟨[1], [], [16], []⟩, ⟨[14], [], [15], []⟩, ⟨[12, 13], [], [14], []⟩, ⟨[3], [], [13], []⟩, ⟨[1], [], [12], []⟩, ⟨[2], [], [11], []⟩]
def key_Codes.k1 : List Nat := [0, 0, 0, 6, 14, 0, 0, 64, 224, 480, 1022, 2046, 4095, 8191]
def key_Codes.l0 : Nat → List ByteArray → Int → List (ByteArray × ByteArray) → Option ((List (ByteArray × ByteArray)))
  | 0, _, _, _ => Option.none
  | k + 1, x1, x3, o2 => (if x3 < (x1.length : Int) then (if 0 ≤ x3 then (if x3 < (x1.length : Int) then (if 0 ≤ wrap64 (x3 + 1) then (if wrap64 (x3 + 1) < (x1.length : Int) then (if o2.length + [((rdE eS x1 x3), (rdE eS x1 (wrap64 (x3 + 1))))].length ≤ 549755813888 then key_Codes.l0 k x1 (wrap64 (x3 + 2)) (o2 ++ [((rdE eS x1 x3), (rdE eS x1 (wrap64 (x3 + 1))))]) else Option.none) else Option.none) else Option.none) else Option.none) else Option.none) else Option.some o2)
def key_Codes.f (k : Nat) : Option ((List (ByteArray × ByteArray))) := ((strings_Fields.f str_2).bind fun r1 => key_Codes.l0 k r1 0 [])
theorem key_Codes.loops : ∀ k, (∀ (x1 : List ByteArray) (x3 : Int) (o2 : List (ByteArray × ByteArray)), RS (fam Tryd.f32 [] [] [] (fun r : (List (ByteArray × ByteArray)) => sq e_SS r) (fun r => [])) (Func.head Tryd.f32 0) ⟨ofT [(1, sq eS x1), (2, .osl 2 e_SS.w 0 o2.length o2.length), (3, .int .i64 x3)], ofL [(2, bufE e_SS o2)]⟩ (key_Codes.l0 k x1 x3 o2))
  | 0 => by intro _ _ _; simp only [key_Codes.l0]; exact RS.none
  | k + 1 => by
    have ih := key_Codes.loops k
    · intro x1 x3 o2
      simp only [key_Codes.l0]
      refine RS.go ?_
      refine RT.br rfl (fun c7 => ?_) (fun c7 => ?_)
      · refine RT.goto rfl ?_
        refine RS.draw rfl ?_
        refine RD.br rfl (fun c2 => ?_) (fun c2 => RD.none)
        refine RD.br rfl (fun c3 => ?_) (fun c3 => RD.none)
        refine RD.br rfl (fun c4 => ?_) (fun c4 => RD.none)
        refine RD.br rfl (fun c5 => ?_) (fun c5 => RD.none)
        refine RD.req rfl ⟨by first | rfl | simp, by first | exact Nat.le_refl _ | simp⟩ ?_
        refine RD.not rfl (by simp <;> omega) ?_
        refine RD.br rfl (fun c6 => ?_) (fun _ => RD.none)
        refine RD.fin key_Codes.k0 key_Codes.k1 rfl rfl (by decide +kernel) ?_
        refine RS.obj 2 (bufE e_SS (o2 ++ [((rdE eS x1 x3), (rdE eS x1 (wrap64 (x3 + 1))))])) ⟨_, rfl, LeO.app (l := o2) (m := [((rdE eS x1 x3), (rdE eS x1 (wrap64 (x3 + 1))))]) (cells_of rfl)⟩ ?_
        refine RS.slot 2 (.osl 2 e_SS.w 0 (o2 ++ [((rdE eS x1 x3), (rdE eS x1 (wrap64 (x3 + 1))))]).length (o2 ++ [((rdE eS x1 x3), (rdE eS x1 (wrap64 (x3 + 1))))]).length) (Le.oslN rfl (by simp)) ?_
        refine RS.slot 23 (.osl 2 e_SS.w 0 (o2 ++ [((rdE eS x1 x3), (rdE eS x1 (wrap64 (x3 + 1))))]).length (o2 ++ [((rdE eS x1 x3), (rdE eS x1 (wrap64 (x3 + 1))))]).length) (Le.oslN rfl (by simp)) ?_
        refine RS.go ?_
        refine RT.goto rfl ?_
        refine RS.weak [(1, sq eS x1), (2, .osl 2 e_SS.w 0 (o2 ++ [((rdE eS x1 x3), (rdE eS x1 (wrap64 (x3 + 1))))]).length (o2 ++ [((rdE eS x1 x3), (rdE eS x1 (wrap64 (x3 + 1))))]).length), (3, .int .i64 (wrap64 (x3 + 2)))] [(2, bufE e_SS (o2 ++ [((rdE eS x1 x3), (rdE eS x1 (wrap64 (x3 + 1))))]))] ⟨Le.eq (by first | rfl | simp), (by first | exact Le.oslN rfl (by first | rfl | simp) | exact Le.refl _ | exact Le.eq (by first | rfl | simp)), Le.eq (by first | rfl | simp), trivial⟩ ⟨⟨_, rfl, LeO.refl _⟩, trivial⟩ rfl (dom0 rfl) ?_
        exact ih x1 (wrap64 (x3 + 2)) (o2 ++ [((rdE eS x1 x3), (rdE eS x1 (wrap64 (x3 + 1))))]) 
      · refine RT.freeze 2 _ _ _ [(0, sq e_SS o2)] [] rfl rfl ⟨.inr ⟨_, rfl, by first | exact Nat.le_refl _ | simp, rfl⟩, trivial⟩ trivial rfl (dom0 rfl) ?_
        exact RT.done rfl rfl (Le.refl _) trivial rfl (dom0 rfl)
theorem key_Codes.ok (k : Nat) (r : (List (ByteArray × ByteArray))) (h : key_Codes.f k  = some r) : Ct Tryd.prog B 32 [] (ofL []) (sq e_SS r) (ofL []) := by
  refine Ct.of (Y := (fam Tryd.f32 [] [] [] (fun r : (List (ByteArray × ByteArray)) => sq e_SS r) (fun r => []))) Tryd.func32 rfl Tryd.call32 rfl rfl ?_ r h
  unfold key_Codes.f
  refine RS.go ?_
  refine RT.call0 rfl (fun _ h => strings_Fields.ok str_2 _ h) (LeL.eq rfl) (fun _ => rfl) (fun r1 => ?_)
  refine RS.go ?_
  refine RT.goto rfl ?_
  refine RS.ghost 2 2 e_SS.w (rep e_SS []) rfl rfl ?_
  refine RS.weak [(1, sq eS r1), (2, .osl 2 e_SS.w 0 ([] : List (ByteArray × ByteArray)).length ([] : List (ByteArray × ByteArray)).length), (3, .int .i64 0)] [(2, bufE e_SS ([] : List (ByteArray × ByteArray)))] ⟨Le.eq (by first | rfl | simp), (by first | exact Le.oslN rfl (by first | rfl | simp) | exact Le.refl _ | exact Le.eq (by first | rfl | simp)), Le.eq (by first | rfl | simp), trivial⟩ ⟨⟨_, rfl, LeO.refl _⟩, trivial⟩ rfl (dom0 rfl) ?_
  exact key_Codes.loops k r1 0 [] 
/-! ### key_byCodes: function 86 -/
def key_byCodes.l0 : Nat → List (ByteArray × ByteArray) → Int → Int → List (ByteArray × ByteArray) → Option ((List (ByteArray × ByteArray)))
  | 0, _, _, _, _ => Option.none
  | k + 1, x5, x6, x7, o4 => (if x7 < x6 then (if 0 ≤ x7 then (if x7 < (x5.length : Int) then key_byCodes.l0 k x5 x6 (wrap64 (x7 + 1)) (mput o4 ((rdE e_SS x5 x7).2) ((rdE e_SS x5 x7).1)) else Option.none) else Option.none) else Option.some o4)
def key_byCodes.f (k : Nat) : Option ((List (ByteArray × ByteArray))) := ((key_Codes.f k ).bind fun r1 => key_byCodes.l0 k r1 (r1.length : Int) 0 ([] : List (ByteArray × ByteArray)))
theorem key_byCodes.loops : ∀ k, (∀ (x5 : List (ByteArray × ByteArray)) (x6 : Int) (x7 : Int) (o4 : List (ByteArray × ByteArray)), RS (fam Tryd.f86 [] [] [] (fun r : (List (ByteArray × ByteArray)) => .omap 4) (fun r => [(4, mapE KL.strs (ByteArray.empty : ByteArray) AV.str r)])) (Func.head Tryd.f86 0) ⟨ofT [(1, .omap 4), (5, sq e_SS x5), (6, .int .i64 x6), (7, .int .i64 x7)], ofL [(4, mapE KL.strs (ByteArray.empty : ByteArray) AV.str o4)]⟩ (key_byCodes.l0 k x5 x6 x7 o4))
  | 0 => by intro _ _ _ _; simp only [key_byCodes.l0]; exact RS.none
  | k + 1 => by
    have ih := key_byCodes.loops k
    · intro x5 x6 x7 o4
      simp only [key_byCodes.l0]
      refine RS.go ?_
      refine RT.br rfl (fun c4 => ?_) (fun c4 => ?_)
      · refine RT.br rfl (fun c2 => ?_) (fun c2 => RT.none)
        refine RT.br rfl (fun c3 => ?_) (fun c3 => RT.none)
        refine RT.goto rfl ?_
        refine RS.obj 4 (mapE KL.strs (ByteArray.empty : ByteArray) AV.str (mput o4 ((rdE e_SS x5 x7).2) ((rdE e_SS x5 x7).1))) ⟨_, rfl, LeO.putS⟩ ?_
        refine RS.go ?_
        refine RT.goto rfl ?_
        refine RS.weak [(1, .omap 4), (5, sq e_SS x5), (6, .int .i64 x6), (7, .int .i64 (wrap64 (x7 + 1)))] [(4, mapE KL.strs (ByteArray.empty : ByteArray) AV.str (mput o4 ((rdE e_SS x5 x7).2) ((rdE e_SS x5 x7).1)))] ⟨Le.eq (by first | rfl | simp), Le.eq (by first | rfl | simp), Le.eq (by first | rfl | simp), Le.eq (by first | rfl | simp), trivial⟩ ⟨⟨_, rfl, LeO.refl _⟩, trivial⟩ rfl (dom0 rfl) ?_
        exact ih x5 x6 (wrap64 (x7 + 1)) (mput o4 ((rdE e_SS x5 x7).2) ((rdE e_SS x5 x7).1)) 
      · exact RT.done rfl rfl (Le.refl _) ⟨⟨_, rfl, LeO.refl _⟩, trivial⟩ rfl (dom0 rfl)
theorem key_byCodes.ok (k : Nat) (r : (List (ByteArray × ByteArray))) (h : key_byCodes.f k  = some r) : Ct Tryd.prog B 86 [] (ofL []) (.omap 4) (ofL [(4, mapE KL.strs (ByteArray.empty : ByteArray) AV.str r)]) := by
  refine Ct.of (Y := (fam Tryd.f86 [] [] [] (fun r : (List (ByteArray × ByteArray)) => .omap 4) (fun r => [(4, mapE KL.strs (ByteArray.empty : ByteArray) AV.str r)]))) Tryd.func86 rfl Tryd.call86 rfl rfl ?_ r h
  unfold key_byCodes.f
  refine RS.go ?_
  refine RT.call0 rfl (fun _ h => key_Codes.ok k  _ h) (LeL.eq rfl) (fun _ => rfl) (fun r1 => ?_)
  refine RS.go ?_
  refine RT.goto rfl ?_
  refine RS.weak [(1, .omap 4), (5, sq e_SS r1), (6, .int .i64 (r1.length : Int)), (7, .int .i64 0)] [(4, mapE KL.strs (ByteArray.empty : ByteArray) AV.str ([] : List (ByteArray × ByteArray)))] ⟨Le.eq (by first | rfl | simp), Le.eq (by first | rfl | simp), Le.eq (by first | rfl | simp), Le.eq (by first | rfl | simp), trivial⟩ ⟨⟨_, rfl, LeO.refl _⟩, trivial⟩ rfl (dom0 rfl) ?_
  exact key_byCodes.loops k r1 (r1.length : Int) 0 ([] : List (ByteArray × ByteArray)) 
/-! ### strings.Builder at this seat -/
open Go.RowKit Go.Shelf Go.Proofs in
set_option maxHeartbeats 2000000 in
set_option maxRecDepth 100000 in
theorem bdCheckN {b : Nat} {w : World} (h0 : w.cell? ⟨b, 0, none⟩ = some (.pointer none)) (hsh : w.shape? b = some (89, 2)) (hfz : w.frozen? ⟨b, 0, none⟩ = false) :
    Calls Tryd.prog 101 #[.pointer (some ⟨b, 0, none⟩)] w fun e w' => e = .returned (.tuple #[]) ∧ w' = w.setCell ⟨b, 0, none⟩ (.pointer (some ⟨b, 0, none⟩)) := by
  obtain ⟨j, hj, hjs⟩ := Option.map_eq_some_iff.1 (show (Tryd.prog.info? 89).map (·.size) = some 2 by kernel_rfl)
  go_enter Tryd.func101, Tryd.ntmps101
  go_wp2
  rw [Lib.run_to_unsafe w ⟨b, 0, none⟩ Tryd.underlying86 Tryd.underlying150 hj (by rw [hjs]; decide) hsh (Nat.zero_lt_succ 1)]
  simp only [Result.andThen]
  rw [Oper.upon_value]
  go_wp2
  rw [run_callFunc_extern Tryd.func124 (by kernel_rfl) (by kernel_rfl) (by kernel_rfl) (e := Extern.AbiNoEscape.same) (by kernel_rfl)]
  rw [Lib.run_noEscape]
  simp only [Result.andThen]
  rw [Oper.upon_value]
  go_wp2
  rw [Lib.run_from_unsafe w ⟨b, 0, none⟩ Tryd.underlying150 Tryd.underlying86 hj hsh (by kernel_rfl)]
  simp only [Result.andThen]
  rw [Oper.upon_value]
  go_wp2
  go_end0
  exact ⟨rfl, rfl⟩
open Go.RowKit Go.Shelf Go.Proofs in
set_option maxHeartbeats 2000000 in
set_option maxRecDepth 100000 in
theorem bdCheckU {b : Nat} {w : World} (h0 : w.cell? ⟨b, 0, none⟩ = some (.pointer (some ⟨b, 0, none⟩))) :
    Calls Tryd.prog 101 #[.pointer (some ⟨b, 0, none⟩)] w fun e w' => e = .returned (.tuple #[]) ∧ w' = w := by
  obtain ⟨j, hj, _⟩ := Option.map_eq_some_iff.1 (show (Tryd.prog.info? 89).map (·.size) = some 2 by kernel_rfl)
  go_enter Tryd.func101, Tryd.ntmps101
  go_wp2
  rw [Lib.run_neq_ptr_same w _ Tryd.underlying86 hj]
  go_wp2
  go_end0
  exact ⟨rfl, rfl⟩
theorem bdCheck {b : Nat} {v : Value} {xs : List Value} {w : World} (h : BdFrom 89 5 b v xs w) :
    Calls Tryd.prog 101 #[.pointer (some ⟨b, 0, none⟩)] w fun e w' => e = .returned (.tuple #[]) ∧ w'.heap[b]? = some (.cells #[.pointer (some ⟨b, 0, none⟩), v] 89 (0, 0)) ∧ w'.ownsRowF 0 5 1 v xs.length xs ∧
      w'.os = w.os ∧ w'.tape = w.tape ∧ w'.output = w.output ∧ w.heap.size ≤ w'.heap.size ∧ ∀ k, k ≠ b → w'.heap[k]? = w.heap[k]? := by
  obtain ⟨p, hp, hbk⟩ := h.bk
  have hA : Lib.BuilderAtF 89 5 0 b p xs w := ⟨Nat.zero_le _, v, hbk, h.own, h.ne⟩
  rcases hp with rfl | rfl
  · refine (bdCheckN hA.cell0 hA.shape hA.frozen0).mono ?_
    rintro e w' ⟨rfl, rfl⟩
    exact ⟨rfl, BdFrom.used hbk hA⟩
  · refine (bdCheckU hA.cell0).mono ?_
    rintro e w' ⟨rfl, rfl⟩
    exact ⟨rfl, hbk, h.own, rfl, rfl, rfl, Nat.le_refl _, fun _ _ => rfl⟩
open Go.RowKit Go.Shelf Go.Proofs in
set_option maxHeartbeats 2000000 in
set_option maxRecDepth 100000 in
theorem bdStringCore {b n cap : Nat} {a : Option Addr} {q : Value} {t : ByteArray} {w wf : World} (c1 : w.drew.cell? ⟨b, 1, none⟩ = some (.slice a n cap))
    (hSD : (Builtin.unsafeSliceData_ #[87] 130 #[.slice a n cap]).run Tryd.prog w.drew = .ok q w.drew) (hUS : (Builtin.unsafeString_ #[130, 3] 9 #[q, .int .i64 n]).run Tryd.prog w.drew = .ok (.string t) wf) :
    Calls Tryd.prog 68 #[.pointer (some ⟨b, 0, none⟩)] w fun e w' => e = .returned (.string t) ∧ w' = wf := by
  have mixed : Tryd.prog.follows .mixedOrders = true := by kernel_rfl
  go_enter Tryd.func68, Tryd.ntmps68
  go_wp2
  go_region_o
  all_goals (go_wp2; go_ret; exact ⟨rfl, rfl⟩)
theorem bdString {b : Nat} {v : Value} (t : ByteArray) {w : World} (h : BdFrom 89 5 b v (Lib.strCells t) w) :
    Calls Tryd.prog 68 #[.pointer (some ⟨b, 0, none⟩)] w fun e w' => e = .returned (.string t) ∧ BdTo 89 5 b v (Lib.strCells t) w w' := by
  have hk := bd_string (P := Tryd.prog) (tp := 130) (ti := 3) (ts := 9) (tl := 87) Tryd.underlying130 (show Tryd.prog.cellsOf 5 = 1 by kernel_rfl) h
  obtain ⟨a, n, cap, q, wf, h1, h2, h3, h4⟩ := hk
  exact (bdStringCore h1 h2 h3).mono fun e w' ⟨he, hw⟩ => ⟨he, hw ▸ h4⟩
def strings_Builder_String.f (v : Nat) (b : ByteArray) : Option (Nat × ByteArray) := some (v + 1, b)
theorem strings_Builder_String.ok (v : Nat) (b : ByteArray) (r : Nat × ByteArray) (h : strings_Builder_String.f v b = some r) :
    Ct Tryd.prog B 68 [.ref 100000 0 0 0 2] (ofL [(100000, .bx 89 1100000 v b.size), (1100000, .bb 5 v b)]) (.str r.2) (ofL [(100000, .bx 89 1100000 r.1 r.2.size), (1100000, .bb 5 r.1 r.2)]) := by
  unfold strings_Builder_String.f at h
  cases h
  refine @Ct.bd Tryd.prog B 68 89 5 100000 1100000 v b b [] [] (.string b) (.str b) (by omega) Tryd.call68 rfl (fun _ _ _ => R.str _) fun k x w hF => ?_
  exact bdString b hF

/-! ### key_signOf: function 88 -/
def key_signOf.f (m0 : List (ByteArray × ByteArray)) (a1 : ByteArray) : Option (ByteArray) := (if a1 ∈ List.map Prod.fst m0 then Option.some (mget (ByteArray.empty : ByteArray) m0 a1) else Option.some (⟨#[42]⟩ : ByteArray))
theorem key_signOf.ok (m0 : List (ByteArray × ByteArray)) (a1 : ByteArray) (r : ByteArray) (h : key_signOf.f m0 a1 = some r) : Ct Tryd.prog B 88 [.omap 100000, .str a1] (ofL [(100000, mapE KL.strs (ByteArray.empty : ByteArray) AV.str m0)]) (.str r) (ofL [(100000, mapE KL.strs (ByteArray.empty : ByteArray) AV.str m0)]) := by
  refine Ct.of (Y := (fam Tryd.f88 [] [] [(100000, mapE KL.strs (ByteArray.empty : ByteArray) AV.str m0)] (fun r : ByteArray => .str r) (fun r => [(100000, mapE KL.strs (ByteArray.empty : ByteArray) AV.str m0)]))) Tryd.func88 rfl Tryd.call88 rfl rfl ?_ r h
  unfold key_signOf.f
  refine RS.go ?_
  refine RT.req rfl (congrArg AV.str (map_end (l := m0) (d := (ByteArray.empty : ByteArray)))) ?_
  refine RT.br rfl (fun c1 => ?_) (fun c1 => ?_)
  · exact RT.done rfl rfl (Le.refl _) ⟨⟨_, rfl, LeO.refl _⟩, trivial⟩ rfl (dom_of rfl)
  · exact RT.done rfl rfl (Le.refl _) ⟨⟨_, rfl, LeO.refl _⟩, trivial⟩ rfl (dom_of rfl)
open Go.RowKit Go.Shelf Go.Proofs in
set_option maxHeartbeats 2000000 in
set_option maxRecDepth 100000 in
theorem bdWriteString {b : Nat} {v : Value} {xs : List Value} (s : ByteArray) {w : World} (h : BdFrom 89 5 b v xs w) (hlen : xs.length + s.size ≤ 140737488355328) :
    Calls Tryd.prog 66 #[.pointer (some ⟨b, 0, none⟩), .string s] w fun e w' => e = .returned (.tuple #[.int .i64 s.size, .nilIface]) ∧ BdTo 89 5 b v (xs ++ Lib.strCells s) w w' := by
  obtain ⟨i0, hi, hz0, hz1, hz2⟩ := info_parts (show (Tryd.prog.info? 5).map (fun i => (i.zero, i.size, i.bytes)) = some (some (.int .u8 0), 1, 1) by kernel_rfl)
  have hne := h.ne
  have hnil := h.nil
  have ecc : ∀ args w, (callFunc 101 args).run Tryd.prog w = .ok (.enter 101 args) w := Tryd.call101
  go_enter Tryd.func66, Tryd.ntmps66
  go_wp2_with (go_at_fn 101; refine (bdCheck h).mono ?_)
  rintro e w1 ⟨rfl, hbk, hown, f1, f2, f3, f4, f5⟩
  have hlt : b < w1.heap.size := (Array.getElem?_eq_some_iff.1 hbk).1
  have c0 : w1.cell? ⟨b, 0, none⟩ = some (.pointer (some ⟨b, 0, none⟩)) := by rw [Lib.cell_of_heap hbk]; rfl
  have c1 : w1.cell? ⟨b, 1, none⟩ = some v := by rw [Lib.cell_of_heap hbk]; rfl
  go_wp2_with (at_builtin; refine wpList_app_str _ rfl _ _ 87 9 rfl 5 i0 Tryd.underlying87 Tryd.underlying9 hi hz0 hz1 hz2 _ _ _ rfl hown s rfl ?c3 ?c4 ?_)
  case c3 => unfold maxLen; omega
  case c4 => omega
  intro v' w2 hown' hgrow hnil' hnew
  have hb2 : w2.heap[b]? = some (.cells #[.pointer (some ⟨b, 0, none⟩), v] 89 (0, 0)) := (hgrow.block b hlt (fun e => hne e.symm)).trans hbk
  have d0 : w2.cell? ⟨b, 0, none⟩ = some (.pointer (some ⟨b, 0, none⟩)) := by rw [Lib.cell_of_heap hb2]; rfl
  have d1 : w2.cell? ⟨b, 1, none⟩ = some v := by rw [Lib.cell_of_heap hb2]; rfl
  have fr1 : w2.frozen? ⟨b, 1, none⟩ = false := Lib.frozen_of_heap hb2 1
  have hnil3 : xs ++ Lib.strCells s = [] → v' = .slice none 0 0 := fun h0 => by
    obtain ⟨h1, h2⟩ := List.append_eq_nil_iff.1 h0
    have h3 := Lib.strCells_length s
    rw [h2] at h3
    have h4 : s.size = 0 := h3.symm
    exact hnil'.2 ⟨hnil h1, by first | exact h4 | simpa using h4⟩
  obtain ⟨ao, n', cap, rfl⟩ : ∃ ao n' cap, v' = .slice ao n' cap := by
    rcases hown'.2 with ⟨hv, _⟩ | ⟨g, cap, cur, fz, hv, _⟩
    · exact ⟨_, _, _, hv⟩
    · exact ⟨_, _, _, hv⟩
  go_wp2
  go_ret2
  refine ⟨rfl, BdTo.put (by decide) (by omega) hbk ⟨f1, f2, f3, fun k hk hkb => f5 k hkb⟩ hne (by simpa [Lib.strCells_length] using hown') hgrow hnil3 hnew⟩
def strings_Builder_WriteString.f (v : Nat) (b : ByteArray) (s : ByteArray) : Option (Nat × ByteArray) := if b.size + s.size ≤ 140737488355328 then some (v + 1, b ++ s) else none
theorem strings_Builder_WriteString.ok (v : Nat) (b : ByteArray) (s : ByteArray) (r : Nat × ByteArray) (h : strings_Builder_WriteString.f v b s = some r) :
    Ct Tryd.prog B 66 [.ref 100000 0 0 0 2, .str s] (ofL [(100000, .bx 89 1100000 v b.size), (1100000, .bb 5 v b)]) .bad (ofL [(100000, .bx 89 1100000 r.1 r.2.size), (1100000, .bb 5 r.1 r.2)]) := by
  unfold strings_Builder_WriteString.f at h
  split at h
  case isFalse => cases h
  case isTrue hc =>
  cases h
  refine @Ct.bd Tryd.prog B 66 89 5 100000 1100000 v b (b ++ s) [.str s] [.string s] (.tuple #[.int .i64 s.size, .nilIface]) .bad (by omega) Tryd.call66 rfl (fun _ _ _ => R.bad _) fun k x w hF => ?_
  have := bdWriteString s hF (by rw [Lib.strCells_length]; exact hc)
  rw [strCells_app]
  exact this

/-! ### strings_Builder_Reset: function 99 -/
def strings_Builder_Reset.f (p0v : Nat) (p0 : ByteArray) : Option (Nat × ByteArray) := Option.some (p0v, ByteArray.empty)
theorem strings_Builder_Reset.ok (p0v : Nat) (p0 : ByteArray) (r : Nat × ByteArray) (h : strings_Builder_Reset.f p0v p0 = some r) : Ct Tryd.prog B 99 [.ref 100000 0 0 0 2] (ofL [(100000, .bx 89 1100000 p0v p0.size), (1100000, .bb 5 p0v p0)]) (.tup []) (ofL [(100000, .bx 89 1100000 r.1 r.2.size), (1100000, .bb 5 r.1 r.2)]) := by
  refine Ct.of (Y := (fam Tryd.f99 [] [] [(100000, .bx 89 1100000 p0v p0.size), (1100000, .bb 5 p0v p0)] (fun r : Nat × ByteArray => .tup []) (fun r => [(100000, .bx 89 1100000 r.1 r.2.size), (1100000, .bb 5 r.1 r.2)]))) Tryd.func99 rfl Tryd.call99 rfl rfl ?_ r h
  unfold strings_Builder_Reset.f
  refine RS.go ?_
  refine RT.goto rfl ?_
  refine RS.go ?_
  refine RT.goto rfl ?_
  refine RS.obj 1100000 (.bb 5 p0v ByteArray.empty) ⟨_, rfl, LeO.bbN⟩ ?_
  refine RS.obj 100000 (.bx 89 1100000 p0v ByteArray.empty.size) ⟨_, rfl, LeO.refl _⟩ ?_
  refine RS.go ?_
  exact RT.done rfl rfl (Le.tup (LeL.nil)) ⟨⟨_, rfl, LeO.refl _⟩, ⟨⟨_, rfl, LeO.refl _⟩, trivial⟩⟩ rfl (dom_of rfl)
/-! ### key_isMark: function 60 -/
def key_isMark.f (a0 : Int) : Option (Bool) := Option.some (decide (Int.tmod a0 2 = 0))
theorem key_isMark.ok (a0 : Int) (r : Bool) (h : key_isMark.f a0 = some r) : Ct Tryd.prog B 60 [.int .i64 a0] (ofL []) (.bool r) (ofL []) := by
  refine Ct.of (Y := (fam Tryd.f60 [] [] [] (fun r : Bool => .bool r) (fun r => []))) Tryd.func60 rfl Tryd.call60 rfl rfl ?_ r h
  unfold key_isMark.f
  refine RS.go ?_
  refine RT.brF rfl ?_
  exact RT.done rfl rfl (Le.refl _) trivial rfl (dom0 rfl)
/-! ### key_nearest: function 59 -/
mutual
def key_nearest.j11 : Nat → Int → Int → List Int → Int → Int → Int → Option (Int × Int)
  | 0, _, _, _, _, _, _ => Option.none
  | k + 1, a0, a1, x8j4, x18, x6j11, x7j11 => key_nearest.l0 k a0 a1 x8j4 x6j11 x7j11 (wrap64 (x18 + 1))
def key_nearest.l0 : Nat → Int → Int → List Int → Int → Int → Int → Option (Int × Int)
  | 0, _, _, _, _, _, _ => Option.none
  | k + 1, a0, a1, x8j4, x6, x7, x18 => (if x18 < (x8j4.length : Int) then (if 0 ≤ x18 then (if x18 < (x8j4.length : Int) then (if x7 < 0 then key_nearest.j11 k a0 a1 x8j4 x18 (rd x8j4 x18) (mx (wrap64 (a0 - (wrap64 ((rd x8j4 x18) * a1)))) (wrap64 ((wrap64 ((rd x8j4 x18) * a1)) - a0))) else (if mx (wrap64 (a0 - (wrap64 ((rd x8j4 x18) * a1)))) (wrap64 ((wrap64 ((rd x8j4 x18) * a1)) - a0)) < x7 then key_nearest.j11 k a0 a1 x8j4 x18 (rd x8j4 x18) (mx (wrap64 (a0 - (wrap64 ((rd x8j4 x18) * a1)))) (wrap64 ((wrap64 ((rd x8j4 x18) * a1)) - a0))) else key_nearest.j11 k a0 a1 x8j4 x18 x6 x7)) else Option.none) else Option.none) else Option.some (x6, x7))
def key_nearest.j4 : Nat → Int → Int → List Int → Option (Int × Int)
  | 0, _, _, _ => Option.none
  | k + 1, a0, a1, x8j4 => key_nearest.l0 k a0 a1 x8j4 0 (-1) 0
end
def key_nearest.f (k : Nat) (a0 : Int) (a1 : Int) (a2 : Bool) : Option (Int × Int) := (if a2 = true then (if 2 ≤ ([1, 3, 7].length : Int) then key_nearest.j4 k a0 a1 ([1, 3, 7].take 2) else Option.none) else key_nearest.j4 k a0 a1 [1, 3, 7])
theorem key_nearest.loops : ∀ k, (∀ (a0 : Int) (a1 : Int) (x8j4 : List Int) (x18 : Int) (x6j11 : Int) (x7j11 : Int), RS (fam Tryd.f59 [4, 11] [] [] (fun r : Int × Int => .tup [.int .i64 r.1, .int .i64 r.2]) (fun r => [])) (Func.reg Tryd.f59 11) ⟨ofT [(0, .int .i64 a0), (1, .int .i64 a1), (6, .int .i64 x6j11), (7, .int .i64 x7j11), (16, sq eI x8j4), (17, .int .i64 (x8j4.length : Int)), (18, .int .i64 x18)], ofL []⟩ (key_nearest.j11 k a0 a1 x8j4 x18 x6j11 x7j11)) ∧ (∀ (a0 : Int) (a1 : Int) (x8j4 : List Int) (x6 : Int) (x7 : Int) (x18 : Int), RS (fam Tryd.f59 [4, 11] [] [] (fun r : Int × Int => .tup [.int .i64 r.1, .int .i64 r.2]) (fun r => [])) (Func.head Tryd.f59 0) ⟨ofT [(0, .int .i64 a0), (1, .int .i64 a1), (6, .int .i64 x6), (7, .int .i64 x7), (16, sq eI x8j4), (17, .int .i64 (x8j4.length : Int)), (18, .int .i64 x18)], ofL []⟩ (key_nearest.l0 k a0 a1 x8j4 x6 x7 x18)) ∧ (∀ (a0 : Int) (a1 : Int) (x8j4 : List Int), RS (fam Tryd.f59 [4, 11] [] [] (fun r : Int × Int => .tup [.int .i64 r.1, .int .i64 r.2]) (fun r => [])) (Func.reg Tryd.f59 4) ⟨ofT [(0, .int .i64 a0), (1, .int .i64 a1), (6, .int .i64 0), (8, sq eI x8j4)], ofL []⟩ (key_nearest.j4 k a0 a1 x8j4))
  | 0 => ⟨by intro _ _ _ _ _ _; simp only [key_nearest.j11]; exact RS.none, by intro _ _ _ _ _ _; simp only [key_nearest.l0]; exact RS.none, by intro _ _ _; simp only [key_nearest.j4]; exact RS.none⟩
  | k + 1 => by
    have ih := key_nearest.loops k
    refine ⟨?_, ?_, ?_⟩
    · intro a0 a1 x8j4 x18 x6j11 x7j11
      simp only [key_nearest.j11]
      refine RS.region ?_
      refine RS.go ?_
      refine RT.goto rfl ?_
      refine RS.weak [(0, .int .i64 a0), (1, .int .i64 a1), (6, .int .i64 x6j11), (7, .int .i64 x7j11), (16, sq eI x8j4), (17, .int .i64 (x8j4.length : Int)), (18, .int .i64 (wrap64 (x18 + 1)))] [] ⟨Le.eq (by first | rfl | simp), Le.eq (by first | rfl | simp), Le.eq (by first | rfl | simp), Le.eq (by first | rfl | simp), Le.eq (by first | rfl | simp), Le.eq (by first | rfl | simp), Le.eq (by first | rfl | simp), trivial⟩ trivial rfl (dom0 rfl) ?_
      exact ih.2.1 a0 a1 x8j4 x6j11 x7j11 (wrap64 (x18 + 1)) 
    · intro a0 a1 x8j4 x6 x7 x18
      simp only [key_nearest.l0]
      refine RS.go ?_
      refine RT.br rfl (fun c6 => ?_) (fun c6 => ?_)
      · refine RT.br rfl (fun c2 => ?_) (fun c2 => RT.none)
        refine RT.br rfl (fun c3 => ?_) (fun c3 => RT.none)
        refine RT.br rfl (fun c5 => ?_) (fun c5 => ?_)
        · refine RT.brT rfl ?_
          refine RT.brT rfl ?_
          refine RT.brT rfl ?_
          refine RT.brT rfl ?_
          refine RT.goto rfl ?_
          refine RS.weak [(0, .int .i64 a0), (1, .int .i64 a1), (6, .int .i64 (rd x8j4 x18)), (7, .int .i64 (mx (wrap64 (a0 - (wrap64 ((rd x8j4 x18) * a1)))) (wrap64 ((wrap64 ((rd x8j4 x18) * a1)) - a0)))), (16, sq eI x8j4), (17, .int .i64 (x8j4.length : Int)), (18, .int .i64 x18)] [] ⟨Le.eq (by first | rfl | simp), Le.eq (by first | rfl | simp), Le.eq (by first | rfl | simp), Le.eq (by first | rfl | simp), Le.eq (by first | rfl | simp), Le.eq (by first | rfl | simp), Le.eq (by first | rfl | simp), trivial⟩ trivial rfl (dom0 rfl) ?_
          exact ih.1 a0 a1 x8j4 x18 (rd x8j4 x18) (mx (wrap64 (a0 - (wrap64 ((rd x8j4 x18) * a1)))) (wrap64 ((wrap64 ((rd x8j4 x18) * a1)) - a0))) 
        · refine RT.brF rfl ?_
          refine RT.brF rfl ?_
          refine RT.brF rfl ?_
          refine RT.br rfl (fun c4 => ?_) (fun c4 => ?_)
          · refine RT.goto rfl ?_
            refine RS.weak [(0, .int .i64 a0), (1, .int .i64 a1), (6, .int .i64 (rd x8j4 x18)), (7, .int .i64 (mx (wrap64 (a0 - (wrap64 ((rd x8j4 x18) * a1)))) (wrap64 ((wrap64 ((rd x8j4 x18) * a1)) - a0)))), (16, sq eI x8j4), (17, .int .i64 (x8j4.length : Int)), (18, .int .i64 x18)] [] ⟨Le.eq (by first | rfl | simp), Le.eq (by first | rfl | simp), Le.eq (by first | rfl | simp), Le.eq (by first | rfl | simp), Le.eq (by first | rfl | simp), Le.eq (by first | rfl | simp), Le.eq (by first | rfl | simp), trivial⟩ trivial rfl (dom0 rfl) ?_
            exact ih.1 a0 a1 x8j4 x18 (rd x8j4 x18) (mx (wrap64 (a0 - (wrap64 ((rd x8j4 x18) * a1)))) (wrap64 ((wrap64 ((rd x8j4 x18) * a1)) - a0))) 
          · refine RT.goto rfl ?_
            refine RS.weak [(0, .int .i64 a0), (1, .int .i64 a1), (6, .int .i64 x6), (7, .int .i64 x7), (16, sq eI x8j4), (17, .int .i64 (x8j4.length : Int)), (18, .int .i64 x18)] [] ⟨Le.eq (by first | rfl | simp), Le.eq (by first | rfl | simp), Le.eq (by first | rfl | simp), Le.eq (by first | rfl | simp), Le.eq (by first | rfl | simp), Le.eq (by first | rfl | simp), Le.eq (by first | rfl | simp), trivial⟩ trivial rfl (dom0 rfl) ?_
            exact ih.1 a0 a1 x8j4 x18 x6 x7 
      · exact RT.done rfl rfl (Le.tup (LeL.cons (Le.refl _) (LeL.cons (Le.refl _) (LeL.nil)))) trivial rfl (dom0 rfl)
    · intro a0 a1 x8j4
      simp only [key_nearest.j4]
      refine RS.region ?_
      refine RS.go ?_
      refine RT.goto rfl ?_
      refine RS.weak [(0, .int .i64 a0), (1, .int .i64 a1), (6, .int .i64 0), (7, .int .i64 (-1)), (16, sq eI x8j4), (17, .int .i64 (x8j4.length : Int)), (18, .int .i64 0)] [] ⟨Le.eq (by first | rfl | simp), Le.eq (by first | rfl | simp), Le.eq (by first | rfl | simp), Le.eq (by first | rfl | simp), Le.eq (by first | rfl | simp), Le.eq (by first | rfl | simp), Le.eq (by first | rfl | simp), trivial⟩ trivial rfl (dom0 rfl) ?_
      exact ih.2.1 a0 a1 x8j4 0 (-1) 0 
theorem key_nearest.ok (k : Nat) (a0 : Int) (a1 : Int) (a2 : Bool) (r : Int × Int) (h : key_nearest.f k a0 a1 a2 = some r) : Ct Tryd.prog B 59 [.int .i64 a0, .int .i64 a1, .bool a2] (ofL []) (.tup [.int .i64 r.1, .int .i64 r.2]) (ofL []) := by
  refine Ct.of (Y := (fam Tryd.f59 [4, 11] [] [] (fun r : Int × Int => .tup [.int .i64 r.1, .int .i64 r.2]) (fun r => []))) Tryd.func59 rfl Tryd.call59 rfl rfl ?_ r h
  unfold key_nearest.f
  refine RS.go ?_
  refine RT.goto rfl ?_
  refine RS.slot 12 (sq eI [1, 3, 7]) (Le.lit (E := eI) (l := [1, 3, 7]) (cells_of rfl)) ?_
  refine RS.go ?_
  refine RT.brB rfl (fun c7 => ?_) (fun c7 => ?_)
  · refine RT.brT rfl ?_
    refine RT.br rfl (fun c1 => ?_) (fun c1 => RT.none)
    refine RT.goto rfl ?_
    refine RS.slot 15 (sq eI ([1, 3, 7].take 2)) (Le.head (by first | omega | assumption) (by first | omega | assumption)) ?_
    refine RS.go ?_
    refine RT.goto rfl ?_
    refine RS.weak [(0, .int .i64 a0), (1, .int .i64 a1), (6, .int .i64 0), (8, sq eI ([1, 3, 7].take 2))] [] ⟨Le.eq (by first | rfl | simp), Le.eq (by first | rfl | simp), Le.eq (by first | rfl | simp), Le.eq (by first | rfl | simp), trivial⟩ trivial rfl (dom0 rfl) ?_
    exact (key_nearest.loops k).2.2 a0 a1 ([1, 3, 7].take 2) 
  · refine RT.goto rfl ?_
    refine RS.weak [(0, .int .i64 a0), (1, .int .i64 a1), (6, .int .i64 0), (8, sq eI [1, 3, 7])] [] ⟨Le.eq (by first | rfl | simp), Le.eq (by first | rfl | simp), Le.eq (by first | rfl | simp), Le.eq (by first | rfl | simp), trivial⟩ trivial rfl (dom0 rfl) ?_
    exact (key_nearest.loops k).2.2 a0 a1 [1, 3, 7] 
open Go.RowKit Go.Shelf Go.Proofs in
set_option maxHeartbeats 2000000 in
set_option maxRecDepth 100000 in
theorem bdWriteByte {b : Nat} {v : Value} {xs : List Value} (c : Int) {w : World} (h : BdFrom 89 5 b v xs w) (hlen : xs.length + 1 ≤ 140737488355328) :
    Calls Tryd.prog 100 #[.pointer (some ⟨b, 0, none⟩), .int .u8 c] w fun e w' => e = .returned .nilIface ∧ BdTo 89 5 b v (xs ++ [.int .u8 c]) w w' := by
  obtain ⟨i0, hi, hz0, hz1, hz2⟩ := info_parts (show (Tryd.prog.info? 5).map (fun i => (i.zero, i.size, i.bytes)) = some (some (.int .u8 0), 1, 1) by kernel_rfl)
  have hne := h.ne
  have hnil := h.nil
  have ecc : ∀ args w, (callFunc 101 args).run Tryd.prog w = .ok (.enter 101 args) w := Tryd.call101
  go_enter Tryd.func100, Tryd.ntmps100
  go_wp2_with (go_at_fn 101; refine (bdCheck h).mono ?_)
  rintro e w1 ⟨rfl, hbk, hown, f1, f2, f3, f4, f5⟩
  have hlt : b < w1.heap.size := (Array.getElem?_eq_some_iff.1 hbk).1
  have c0 : w1.cell? ⟨b, 0, none⟩ = some (.pointer (some ⟨b, 0, none⟩)) := by rw [Lib.cell_of_heap hbk]; rfl
  have c1 : w1.cell? ⟨b, 1, none⟩ = some v := by rw [Lib.cell_of_heap hbk]; rfl
  go_wp2_with (at_builtin; refine wpList_app_bytes _ rfl _ _ 87 rfl 5 i0 Tryd.underlying87 hi hz0 hz1 hz2 _ _ _ rfl (hown.alloc _) ⟨w1.heap.size, 0, none⟩ 1 1 [.int .u8 c] rfl rfl ?c1 ?c2 ?c3 ?c4 ?_)
  case c1 =>
    intro j u hj
    match j, hj with
    | 0, hj => simp at hj; subst hj; simp [Addr.add]
  case c2 => intro u hu; simp at hu; subst hu; rfl
  case c3 => unfold maxLen; omega
  case c4 => omega
  intro v' w2 hown' hgrow hnil' hnew
  have hb2 : w2.heap[b]? = some (.cells #[.pointer (some ⟨b, 0, none⟩), v] 89 (0, 0)) := by
    rw [hgrow.block b (by simp; omega) (fun e => hne e.symm), Lib.alloc_old w1 _ b hlt]
    exact hbk
  have d0 : w2.cell? ⟨b, 0, none⟩ = some (.pointer (some ⟨b, 0, none⟩)) := by rw [Lib.cell_of_heap hb2]; rfl
  have d1 : w2.cell? ⟨b, 1, none⟩ = some v := by rw [Lib.cell_of_heap hb2]; rfl
  have fr1 : w2.frozen? ⟨b, 1, none⟩ = false := Lib.frozen_of_heap hb2 1
  obtain ⟨g, cap, rfl⟩ : ∃ g cap, v' = .slice (some ⟨g, 0, none⟩) (xs.length + 1) cap := by
    rcases hown'.2 with ⟨_, h0⟩ | ⟨g, cap, cur, fz, hv, _⟩
    · omega
    · exact ⟨g, cap, hv⟩
  go_wp2
  go_ret
  refine ⟨rfl, BdTo.put (w1 := w1.alloc _) (by decide) (by simp; omega) ((Lib.alloc_old w1 _ b hlt).trans hbk) ⟨f1, f2, f3, fun k hk hkb => (Lib.alloc_old w1 _ k (by omega)).trans (f5 k hkb)⟩ hne (by simpa using hown') hgrow (by simp) hnew⟩
def strings_Builder_WriteByte.f (v : Nat) (b : ByteArray) (c : Int) : Option (Nat × ByteArray) := if b.size + 1 ≤ 140737488355328 ∧ 0 ≤ c ∧ c < 256 then some (v + 1, b.push (UInt8.ofNat c.toNat)) else none
theorem strings_Builder_WriteByte.ok (v : Nat) (b : ByteArray) (c : Int) (r : Nat × ByteArray) (h : strings_Builder_WriteByte.f v b c = some r) :
    Ct Tryd.prog B 100 [.ref 100000 0 0 0 2, .int .u8 c] (ofL [(100000, .bx 89 1100000 v b.size), (1100000, .bb 5 v b)]) .bad (ofL [(100000, .bx 89 1100000 r.1 r.2.size), (1100000, .bb 5 r.1 r.2)]) := by
  unfold strings_Builder_WriteByte.f at h
  split at h
  case isFalse => cases h
  case isTrue hc =>
  cases h
  refine @Ct.bd Tryd.prog B 100 89 5 100000 1100000 v b (b.push (UInt8.ofNat c.toNat)) [.int .u8 c] [.int .u8 c] .nilIface .bad (by omega) Tryd.call100 rfl (fun _ _ _ => R.bad _) fun k x w hF => ?_
  have := bdWriteByte c hF (by rw [Lib.strCells_length]; exact hc.1)
  rw [strCells_push b hc.2.1 hc.2.2]
  exact this

/-! ### key_read_1: function 98 -/
def key_read_1.k0 : List DK := [⟨[0, 5], [300000, 1300000, 300000, 1300000], [6], [300000, 1300000]⟩, ⟨[3, 4], [700001, 700001], [5], []⟩, ⟨[2], [300002, 1300002, 300002, 1300002], [4], [300002, 1300002]⟩, ⟨[1], [300001], [3], []⟩]
def key_read_1.k1 : List Nat := [0, 0, 3, 7]
def key_read_1.f (v0v : Nat) (v0 : ByteArray) (v1 : List (ByteArray × ByteArray)) (v2v : Nat) (v2 : ByteArray) : Option (Nat × ByteArray × Nat × ByteArray) := ((strings_Builder_String.f v2v v2).bind fun r1 => ((key_signOf.f v1 r1.2).bind fun r2 => ((strings_Builder_WriteString.f v0v v0 r2).bind fun r3 => ((strings_Builder_Reset.f r1.1 r1.2).bind fun r4 => Option.some (r3.1, r3.2, r4.1, r4.2)))))
theorem key_read_1.ok (v0v : Nat) (v0 : ByteArray) (v1 : List (ByteArray × ByteArray)) (v2v : Nat) (v2 : ByteArray) (r : Nat × ByteArray × Nat × ByteArray) (h : key_read_1.f v0v v0 v1 v2v v2 = some r) : Ct Tryd.prog B 98 [.ref 300000 0 0 0 2, .ref 300001 0 0 0 1, .ref 300002 0 0 0 2] (ofL [(300000, .bx 89 1300000 v0v v0.size), (1300000, .bb 5 v0v v0), (300001, .box [.omap 700001]), (700001, mapE KL.strs (ByteArray.empty : ByteArray) AV.str v1), (300002, .bx 89 1300002 v2v v2.size), (1300002, .bb 5 v2v v2)]) (.tup []) (ofL [(300001, .box [.omap 700001]), (700001, mapE KL.strs (ByteArray.empty : ByteArray) AV.str v1), (300000, .bx 89 1300000 r.1 r.2.1.size), (1300000, .bb 5 r.1 r.2.1), (300002, .bx 89 1300002 r.2.2.1 r.2.2.2.size), (1300002, .bb 5 r.2.2.1 r.2.2.2)]) := by
  refine Ct.of (Y := (fam Tryd.f98 [] [] [(300000, .bx 89 1300000 v0v v0.size), (1300000, .bb 5 v0v v0), (300001, .box [.omap 700001]), (700001, mapE KL.strs (ByteArray.empty : ByteArray) AV.str v1), (300002, .bx 89 1300002 v2v v2.size), (1300002, .bb 5 v2v v2)] (fun r : Nat × ByteArray × Nat × ByteArray => .tup []) (fun r => [(300001, .box [.omap 700001]), (700001, mapE KL.strs (ByteArray.empty : ByteArray) AV.str v1), (300000, .bx 89 1300000 r.1 r.2.1.size), (1300000, .bb 5 r.1 r.2.1), (300002, .bx 89 1300002 r.2.2.1 r.2.2.2.size), (1300002, .bb 5 r.2.2.1 r.2.2.2)]))) Tryd.func98 rfl Tryd.call98 rfl rfl ?_ r h
  unfold key_read_1.f
  refine RS.go ?_
  refine RT.goto rfl ?_
  refine RS.draw rfl ?_
  refine RD.call (CR := []) (CW := (fun r => [(100000, .bx 89 1100000 r.1 r.2.size), (1100000, .bb 5 r.1 r.2)])) rfl (fun _ h => strings_Builder_String.ok v2v v2 _ h) (fun i => bif Nat.beq i 1100000 then 1300002 else bif Nat.beq i 100000 then 300002 else i) trivial (fun _ => rfl) ⟨_, _, _, _, rfl, rfl, rfl⟩ (LeL.eq rfl) ⟨⟨_, rfl, LeO.refl _⟩, ⟨⟨_, rfl, LeO.refl _⟩, trivial⟩⟩ (fun _ => rfl) (fun r1 => ?_)
  refine RD.call (CR := [(100000, mapE KL.strs (ByteArray.empty : ByteArray) AV.str v1)]) (CW := (fun r => [])) rfl (fun _ h => key_signOf.ok v1 r1.2 _ h) (fun i => bif Nat.beq i 100000 then 700001 else i) ⟨rfl, trivial⟩ (fun _ => rfl) ⟨_, _, _, _, rfl, rfl, rfl⟩ (LeL.eq rfl) ⟨⟨_, rfl, LeO.refl _⟩, trivial⟩ (fun _ => rfl) (fun r2 => ?_)
  refine RD.call (CR := []) (CW := (fun r => [(100000, .bx 89 1100000 r.1 r.2.size), (1100000, .bb 5 r.1 r.2)])) rfl (fun _ h => strings_Builder_WriteString.ok v0v v0 r2 _ h) (fun i => bif Nat.beq i 1100000 then 1300000 else bif Nat.beq i 100000 then 300000 else i) trivial (fun _ => rfl) ⟨_, _, _, _, rfl, rfl, rfl⟩ (LeL.eq rfl) ⟨⟨_, rfl, LeO.refl _⟩, ⟨⟨_, rfl, LeO.refl _⟩, trivial⟩⟩ (fun _ => rfl) (fun r3 => ?_)
  refine RD.fin key_read_1.k0 key_read_1.k1 rfl rfl (by decide +kernel) ?_
  refine RS.go ?_
  refine RT.call rfl (fun _ h => strings_Builder_Reset.ok r1.1 r1.2 _ h) (fun i => bif Nat.beq i 1100000 then 1300002 else bif Nat.beq i 100000 then 300002 else i) (LeL.eq rfl) ⟨⟨_, rfl, LeO.refl _⟩, ⟨⟨_, rfl, LeO.refl _⟩, trivial⟩⟩ (fun _ => rfl) (fun r4 => ?_)
  refine RS.go ?_
  exact RT.done rfl rfl (Le.tup (LeL.nil)) ⟨⟨_, rfl, LeO.refl _⟩, ⟨⟨_, rfl, LeO.refl _⟩, ⟨⟨_, rfl, LeO.refl _⟩, ⟨⟨_, rfl, LeO.refl _⟩, ⟨⟨_, rfl, LeO.refl _⟩, ⟨⟨_, rfl, LeO.refl _⟩, trivial⟩⟩⟩⟩⟩⟩ rfl (dom_of rfl)
/-! ### key_read: function 57 -/
mutual
def key_read.j17 : Nat → List Int → Int → Int → List (ByteArray × ByteArray) → Nat → ByteArray → Nat → ByteArray → Option (ByteArray)
  | 0, _, _, _, _, _, _, _, _ => Option.none
  | k + 1, l0, a1, x17, o13, v1000006j17, o1000006j17, v1000007j17, o1000007j17 => key_read.l0 k l0 a1 (wrap64 (x17 + 1)) o13 v1000006j17 o1000006j17 v1000007j17 o1000007j17
def key_read.l0 : Nat → List Int → Int → Int → List (ByteArray × ByteArray) → Nat → ByteArray → Nat → ByteArray → Option (ByteArray)
  | 0, _, _, _, _, _, _, _, _ => Option.none
  | k + 1, l0, a1, x17, o13, v1000006, o1000006, v1000007, o1000007 => (if x17 < (l0.length : Int) then (if 0 ≤ x17 then (if x17 < (l0.length : Int) then ((key_isMark.f x17).bind fun r4 => ((key_nearest.f k (rd l0 x17) a1 r4).bind fun r5 => ((key_isMark.f x17).bind fun r6 => (if r6 = true then (if r5.1 = 1 then ((strings_Builder_WriteByte.f v1000007 o1000007 46).bind fun r7 => key_read.j17 k l0 a1 x17 o13 v1000006 o1000006 r7.1 r7.2) else ((key_isMark.f x17).bind fun r8 => (if r8 = true then ((strings_Builder_WriteByte.f v1000007 o1000007 45).bind fun r9 => key_read.j17 k l0 a1 x17 o13 v1000006 o1000006 r9.1 r9.2) else (if r5.1 = 3 then ((key_read_1.f v1000006 o1000006 o13 v1000007 o1000007).bind fun r10 => key_read.j17 k l0 a1 x17 o13 r10.1 r10.2.1 r10.2.2.1 r10.2.2.2) else (if r5.1 = 7 then ((key_read_1.f v1000006 o1000006 o13 v1000007 o1000007).bind fun r11 => ((strings_Builder_WriteByte.f r11.1 r11.2.1 32).bind fun r12 => key_read.j17 k l0 a1 x17 o13 r12.1 r12.2 r11.2.2.1 r11.2.2.2)) else key_read.j17 k l0 a1 x17 o13 v1000006 o1000006 v1000007 o1000007))))) else ((key_isMark.f x17).bind fun r17 => (if r17 = true then ((strings_Builder_WriteByte.f v1000007 o1000007 45).bind fun r18 => key_read.j17 k l0 a1 x17 o13 v1000006 o1000006 r18.1 r18.2) else (if r5.1 = 3 then ((key_read_1.f v1000006 o1000006 o13 v1000007 o1000007).bind fun r19 => key_read.j17 k l0 a1 x17 o13 r19.1 r19.2.1 r19.2.2.1 r19.2.2.2) else (if r5.1 = 7 then ((key_read_1.f v1000006 o1000006 o13 v1000007 o1000007).bind fun r20 => ((strings_Builder_WriteByte.f r20.1 r20.2.1 32).bind fun r21 => key_read.j17 k l0 a1 x17 o13 r21.1 r21.2 r20.2.2.1 r20.2.2.2)) else key_read.j17 k l0 a1 x17 o13 v1000006 o1000006 v1000007 o1000007)))))))) else Option.none) else Option.none) else ((key_read_1.f v1000006 o1000006 o13 v1000007 o1000007).bind fun r26 => ((strings_Builder_String.f r26.1 r26.2.1).bind fun r27 => Option.some r27.2)))
end
def key_read.f (k : Nat) (l0 : List Int) (a1 : Int) : Option (ByteArray) := ((key_byCodes.f k ).bind fun r1 => key_read.l0 k l0 a1 0 r1 0 ByteArray.empty 0 ByteArray.empty)
theorem key_read.loops : ∀ k, (∀ (l0 : List Int) (a1 : Int) (x17 : Int) (o13 : List (ByteArray × ByteArray)) (v1000006j17 : Nat) (o1000006j17 : ByteArray) (v1000007j17 : Nat) (o1000007j17 : ByteArray), RS (fam Tryd.f57 [17] [] [] (fun r : ByteArray => .str r) (fun r => [])) (Func.reg Tryd.f57 17) ⟨ofT [(1, .int .i64 a1), (6, .ref 6 0 0 0 2), (7, .ref 7 0 0 0 2), (8, .fn 98 [.ref 6 0 0 0 2, .ref 5 0 0 0 1, .ref 7 0 0 0 2]), (15, sq eI l0), (16, .int .i64 (l0.length : Int)), (17, .int .i64 x17)], ofL [(5, .box [.omap 13]), (6, .bx 89 1000006 v1000006j17 o1000006j17.size), (7, .bx 89 1000007 v1000007j17 o1000007j17.size), (13, mapE KL.strs (ByteArray.empty : ByteArray) AV.str o13), (1000006, .bb 5 v1000006j17 o1000006j17), (1000007, .bb 5 v1000007j17 o1000007j17)]⟩ (key_read.j17 k l0 a1 x17 o13 v1000006j17 o1000006j17 v1000007j17 o1000007j17)) ∧ (∀ (l0 : List Int) (a1 : Int) (x17 : Int) (o13 : List (ByteArray × ByteArray)) (v1000006 : Nat) (o1000006 : ByteArray) (v1000007 : Nat) (o1000007 : ByteArray), RS (fam Tryd.f57 [17] [] [] (fun r : ByteArray => .str r) (fun r => [])) (Func.head Tryd.f57 0) ⟨ofT [(1, .int .i64 a1), (6, .ref 6 0 0 0 2), (7, .ref 7 0 0 0 2), (8, .fn 98 [.ref 6 0 0 0 2, .ref 5 0 0 0 1, .ref 7 0 0 0 2]), (15, sq eI l0), (16, .int .i64 (l0.length : Int)), (17, .int .i64 x17)], ofL [(5, .box [.omap 13]), (6, .bx 89 1000006 v1000006 o1000006.size), (7, .bx 89 1000007 v1000007 o1000007.size), (13, mapE KL.strs (ByteArray.empty : ByteArray) AV.str o13), (1000006, .bb 5 v1000006 o1000006), (1000007, .bb 5 v1000007 o1000007)]⟩ (key_read.l0 k l0 a1 x17 o13 v1000006 o1000006 v1000007 o1000007))
  | 0 => ⟨by intro _ _ _ _ _ _ _ _; simp only [key_read.j17]; exact RS.none, by intro _ _ _ _ _ _ _ _; simp only [key_read.l0]; exact RS.none⟩
  | k + 1 => by
    have ih := key_read.loops k
    refine ⟨?_, ?_⟩
    · intro l0 a1 x17 o13 v1000006j17 o1000006j17 v1000007j17 o1000007j17
      simp only [key_read.j17]
      refine RS.region ?_
      refine RS.go ?_
      refine RT.goto rfl ?_
      refine RS.weak [(1, .int .i64 a1), (6, .ref 6 0 0 0 2), (7, .ref 7 0 0 0 2), (8, .fn 98 [.ref 6 0 0 0 2, .ref 5 0 0 0 1, .ref 7 0 0 0 2]), (15, sq eI l0), (16, .int .i64 (l0.length : Int)), (17, .int .i64 (wrap64 (x17 + 1)))] [(5, .box [.omap 13]), (6, .bx 89 1000006 v1000006j17 o1000006j17.size), (7, .bx 89 1000007 v1000007j17 o1000007j17.size), (13, mapE KL.strs (ByteArray.empty : ByteArray) AV.str o13), (1000006, .bb 5 v1000006j17 o1000006j17), (1000007, .bb 5 v1000007j17 o1000007j17)] ⟨Le.eq (by first | rfl | simp), Le.eq (by first | rfl | simp), Le.eq (by first | rfl | simp), Le.eq (by first | rfl | simp), Le.eq (by first | rfl | simp), Le.eq (by first | rfl | simp), Le.eq (by first | rfl | simp), trivial⟩ ⟨⟨_, rfl, LeO.refl _⟩, ⟨_, rfl, LeO.refl _⟩, ⟨_, rfl, LeO.refl _⟩, ⟨_, rfl, LeO.refl _⟩, ⟨_, rfl, LeO.refl _⟩, ⟨_, rfl, LeO.refl _⟩, trivial⟩ rfl (dom0 rfl) ?_
      exact ih.2 l0 a1 (wrap64 (x17 + 1)) o13 v1000006j17 o1000006j17 v1000007j17 o1000007j17 
    · intro l0 a1 x17 o13 v1000006 o1000006 v1000007 o1000007
      simp only [key_read.l0]
      refine RS.go ?_
      refine RT.br rfl (fun c28 => ?_) (fun c28 => ?_)
      · refine RT.br rfl (fun c2 => ?_) (fun c2 => RT.none)
        refine RT.br rfl (fun c3 => ?_) (fun c3 => RT.none)
        refine RT.call0 rfl (fun _ h => key_isMark.ok x17 _ h) (LeL.eq rfl) (fun _ => rfl) (fun r4 => ?_)
        refine RS.go ?_
        refine RT.call0 rfl (fun _ h => key_nearest.ok k (rd l0 x17) a1 r4 _ h) (LeL.eq rfl) (fun _ => rfl) (fun r5 => ?_)
        refine RS.go ?_
        refine RT.call0 rfl (fun _ h => key_isMark.ok x17 _ h) (LeL.eq rfl) (fun _ => rfl) (fun r6 => ?_)
        refine RS.go ?_
        refine RT.brB rfl (fun c25 => ?_) (fun c25 => ?_)
        · refine RT.brT rfl ?_
          refine RT.brT rfl ?_
          refine RT.br rfl (fun c16 => ?_) (fun c16 => ?_)
          · refine RT.call rfl (fun _ h => strings_Builder_WriteByte.ok v1000007 o1000007 46 _ h) (fun i => bif Nat.beq i 1100000 then 1000007 else bif Nat.beq i 100000 then 7 else i) (LeL.eq rfl) ⟨⟨_, rfl, LeO.refl _⟩, ⟨⟨_, rfl, LeO.refl _⟩, trivial⟩⟩ (fun _ => rfl) (fun r7 => ?_)
            refine RS.go ?_
            refine RT.goto rfl ?_
            refine RS.weak [(1, .int .i64 a1), (6, .ref 6 0 0 0 2), (7, .ref 7 0 0 0 2), (8, .fn 98 [.ref 6 0 0 0 2, .ref 5 0 0 0 1, .ref 7 0 0 0 2]), (15, sq eI l0), (16, .int .i64 (l0.length : Int)), (17, .int .i64 x17)] [(5, .box [.omap 13]), (6, .bx 89 1000006 v1000006 o1000006.size), (7, .bx 89 1000007 r7.1 r7.2.size), (13, mapE KL.strs (ByteArray.empty : ByteArray) AV.str o13), (1000006, .bb 5 v1000006 o1000006), (1000007, .bb 5 r7.1 r7.2)] ⟨Le.eq (by first | rfl | simp), Le.eq (by first | rfl | simp), Le.eq (by first | rfl | simp), Le.eq (by first | rfl | simp), Le.eq (by first | rfl | simp), Le.eq (by first | rfl | simp), Le.eq (by first | rfl | simp), trivial⟩ ⟨⟨_, rfl, LeO.refl _⟩, ⟨_, rfl, LeO.refl _⟩, ⟨_, rfl, LeO.refl _⟩, ⟨_, rfl, LeO.refl _⟩, ⟨_, rfl, LeO.refl _⟩, ⟨_, rfl, LeO.refl _⟩, trivial⟩ rfl (dom0 rfl) ?_
            exact ih.1 l0 a1 x17 o13 v1000006 o1000006 r7.1 r7.2 
          · refine RT.call0 rfl (fun _ h => key_isMark.ok x17 _ h) (LeL.eq rfl) (fun _ => rfl) (fun r8 => ?_)
            refine RS.go ?_
            refine RT.brB rfl (fun c15 => ?_) (fun c15 => ?_)
            · refine RT.call rfl (fun _ h => strings_Builder_WriteByte.ok v1000007 o1000007 45 _ h) (fun i => bif Nat.beq i 1100000 then 1000007 else bif Nat.beq i 100000 then 7 else i) (LeL.eq rfl) ⟨⟨_, rfl, LeO.refl _⟩, ⟨⟨_, rfl, LeO.refl _⟩, trivial⟩⟩ (fun _ => rfl) (fun r9 => ?_)
              refine RS.go ?_
              refine RT.goto rfl ?_
              refine RS.weak [(1, .int .i64 a1), (6, .ref 6 0 0 0 2), (7, .ref 7 0 0 0 2), (8, .fn 98 [.ref 6 0 0 0 2, .ref 5 0 0 0 1, .ref 7 0 0 0 2]), (15, sq eI l0), (16, .int .i64 (l0.length : Int)), (17, .int .i64 x17)] [(5, .box [.omap 13]), (6, .bx 89 1000006 v1000006 o1000006.size), (7, .bx 89 1000007 r9.1 r9.2.size), (13, mapE KL.strs (ByteArray.empty : ByteArray) AV.str o13), (1000006, .bb 5 v1000006 o1000006), (1000007, .bb 5 r9.1 r9.2)] ⟨Le.eq (by first | rfl | simp), Le.eq (by first | rfl | simp), Le.eq (by first | rfl | simp), Le.eq (by first | rfl | simp), Le.eq (by first | rfl | simp), Le.eq (by first | rfl | simp), Le.eq (by first | rfl | simp), trivial⟩ ⟨⟨_, rfl, LeO.refl _⟩, ⟨_, rfl, LeO.refl _⟩, ⟨_, rfl, LeO.refl _⟩, ⟨_, rfl, LeO.refl _⟩, ⟨_, rfl, LeO.refl _⟩, ⟨_, rfl, LeO.refl _⟩, trivial⟩ rfl (dom0 rfl) ?_
              exact ih.1 l0 a1 x17 o13 v1000006 o1000006 r9.1 r9.2 
            · refine RT.br rfl (fun c14 => ?_) (fun c14 => ?_)
              · refine RT.call rfl (fun _ h => key_read_1.ok v1000006 o1000006 o13 v1000007 o1000007 _ h) (fun i => bif Nat.beq i 1300002 then 1000007 else bif Nat.beq i 300002 then 7 else bif Nat.beq i 700001 then 13 else bif Nat.beq i 300001 then 5 else bif Nat.beq i 1300000 then 1000006 else bif Nat.beq i 300000 then 6 else i) (LeL.eq rfl) ⟨⟨_, rfl, LeO.refl _⟩, ⟨⟨_, rfl, LeO.refl _⟩, ⟨⟨_, rfl, LeO.refl _⟩, ⟨⟨_, rfl, LeO.refl _⟩, ⟨⟨_, rfl, LeO.refl _⟩, ⟨⟨_, rfl, LeO.refl _⟩, trivial⟩⟩⟩⟩⟩⟩ (fun _ => rfl) (fun r10 => ?_)
                refine RS.go ?_
                refine RT.goto rfl ?_
                refine RS.weak [(1, .int .i64 a1), (6, .ref 6 0 0 0 2), (7, .ref 7 0 0 0 2), (8, .fn 98 [.ref 6 0 0 0 2, .ref 5 0 0 0 1, .ref 7 0 0 0 2]), (15, sq eI l0), (16, .int .i64 (l0.length : Int)), (17, .int .i64 x17)] [(5, .box [.omap 13]), (6, .bx 89 1000006 r10.1 r10.2.1.size), (7, .bx 89 1000007 r10.2.2.1 r10.2.2.2.size), (13, mapE KL.strs (ByteArray.empty : ByteArray) AV.str o13), (1000006, .bb 5 r10.1 r10.2.1), (1000007, .bb 5 r10.2.2.1 r10.2.2.2)] ⟨Le.eq (by first | rfl | simp), Le.eq (by first | rfl | simp), Le.eq (by first | rfl | simp), Le.eq (by first | rfl | simp), Le.eq (by first | rfl | simp), Le.eq (by first | rfl | simp), Le.eq (by first | rfl | simp), trivial⟩ ⟨⟨_, rfl, LeO.refl _⟩, ⟨_, rfl, LeO.refl _⟩, ⟨_, rfl, LeO.refl _⟩, ⟨_, rfl, LeO.refl _⟩, ⟨_, rfl, LeO.refl _⟩, ⟨_, rfl, LeO.refl _⟩, trivial⟩ rfl (dom0 rfl) ?_
                exact ih.1 l0 a1 x17 o13 r10.1 r10.2.1 r10.2.2.1 r10.2.2.2 
              · refine RT.br rfl (fun c13 => ?_) (fun c13 => ?_)
                · refine RT.call rfl (fun _ h => key_read_1.ok v1000006 o1000006 o13 v1000007 o1000007 _ h) (fun i => bif Nat.beq i 1300002 then 1000007 else bif Nat.beq i 300002 then 7 else bif Nat.beq i 700001 then 13 else bif Nat.beq i 300001 then 5 else bif Nat.beq i 1300000 then 1000006 else bif Nat.beq i 300000 then 6 else i) (LeL.eq rfl) ⟨⟨_, rfl, LeO.refl _⟩, ⟨⟨_, rfl, LeO.refl _⟩, ⟨⟨_, rfl, LeO.refl _⟩, ⟨⟨_, rfl, LeO.refl _⟩, ⟨⟨_, rfl, LeO.refl _⟩, ⟨⟨_, rfl, LeO.refl _⟩, trivial⟩⟩⟩⟩⟩⟩ (fun _ => rfl) (fun r11 => ?_)
                  refine RS.go ?_
                  refine RT.call rfl (fun _ h => strings_Builder_WriteByte.ok r11.1 r11.2.1 32 _ h) (fun i => bif Nat.beq i 1100000 then 1000006 else bif Nat.beq i 100000 then 6 else i) (LeL.eq rfl) ⟨⟨_, rfl, LeO.refl _⟩, ⟨⟨_, rfl, LeO.refl _⟩, trivial⟩⟩ (fun _ => rfl) (fun r12 => ?_)
                  refine RS.go ?_
                  refine RT.goto rfl ?_
                  refine RS.weak [(1, .int .i64 a1), (6, .ref 6 0 0 0 2), (7, .ref 7 0 0 0 2), (8, .fn 98 [.ref 6 0 0 0 2, .ref 5 0 0 0 1, .ref 7 0 0 0 2]), (15, sq eI l0), (16, .int .i64 (l0.length : Int)), (17, .int .i64 x17)] [(5, .box [.omap 13]), (6, .bx 89 1000006 r12.1 r12.2.size), (7, .bx 89 1000007 r11.2.2.1 r11.2.2.2.size), (13, mapE KL.strs (ByteArray.empty : ByteArray) AV.str o13), (1000006, .bb 5 r12.1 r12.2), (1000007, .bb 5 r11.2.2.1 r11.2.2.2)] ⟨Le.eq (by first | rfl | simp), Le.eq (by first | rfl | simp), Le.eq (by first | rfl | simp), Le.eq (by first | rfl | simp), Le.eq (by first | rfl | simp), Le.eq (by first | rfl | simp), Le.eq (by first | rfl | simp), trivial⟩ ⟨⟨_, rfl, LeO.refl _⟩, ⟨_, rfl, LeO.refl _⟩, ⟨_, rfl, LeO.refl _⟩, ⟨_, rfl, LeO.refl _⟩, ⟨_, rfl, LeO.refl _⟩, ⟨_, rfl, LeO.refl _⟩, trivial⟩ rfl (dom0 rfl) ?_
                  exact ih.1 l0 a1 x17 o13 r12.1 r12.2 r11.2.2.1 r11.2.2.2 
                · refine RT.goto rfl ?_
                  refine RS.weak [(1, .int .i64 a1), (6, .ref 6 0 0 0 2), (7, .ref 7 0 0 0 2), (8, .fn 98 [.ref 6 0 0 0 2, .ref 5 0 0 0 1, .ref 7 0 0 0 2]), (15, sq eI l0), (16, .int .i64 (l0.length : Int)), (17, .int .i64 x17)] [(5, .box [.omap 13]), (6, .bx 89 1000006 v1000006 o1000006.size), (7, .bx 89 1000007 v1000007 o1000007.size), (13, mapE KL.strs (ByteArray.empty : ByteArray) AV.str o13), (1000006, .bb 5 v1000006 o1000006), (1000007, .bb 5 v1000007 o1000007)] ⟨Le.eq (by first | rfl | simp), Le.eq (by first | rfl | simp), Le.eq (by first | rfl | simp), Le.eq (by first | rfl | simp), Le.eq (by first | rfl | simp), Le.eq (by first | rfl | simp), Le.eq (by first | rfl | simp), trivial⟩ ⟨⟨_, rfl, LeO.refl _⟩, ⟨_, rfl, LeO.refl _⟩, ⟨_, rfl, LeO.refl _⟩, ⟨_, rfl, LeO.refl _⟩, ⟨_, rfl, LeO.refl _⟩, ⟨_, rfl, LeO.refl _⟩, trivial⟩ rfl (dom0 rfl) ?_
                  exact ih.1 l0 a1 x17 o13 v1000006 o1000006 v1000007 o1000007 
        · refine RT.brF rfl ?_
          refine RT.brF rfl ?_
          refine RT.brF rfl ?_
          refine RT.call0 rfl (fun _ h => key_isMark.ok x17 _ h) (LeL.eq rfl) (fun _ => rfl) (fun r17 => ?_)
          refine RS.go ?_
          refine RT.brB rfl (fun c24 => ?_) (fun c24 => ?_)
          · refine RT.call rfl (fun _ h => strings_Builder_WriteByte.ok v1000007 o1000007 45 _ h) (fun i => bif Nat.beq i 1100000 then 1000007 else bif Nat.beq i 100000 then 7 else i) (LeL.eq rfl) ⟨⟨_, rfl, LeO.refl _⟩, ⟨⟨_, rfl, LeO.refl _⟩, trivial⟩⟩ (fun _ => rfl) (fun r18 => ?_)
            refine RS.go ?_
            refine RT.goto rfl ?_
            refine RS.weak [(1, .int .i64 a1), (6, .ref 6 0 0 0 2), (7, .ref 7 0 0 0 2), (8, .fn 98 [.ref 6 0 0 0 2, .ref 5 0 0 0 1, .ref 7 0 0 0 2]), (15, sq eI l0), (16, .int .i64 (l0.length : Int)), (17, .int .i64 x17)] [(5, .box [.omap 13]), (6, .bx 89 1000006 v1000006 o1000006.size), (7, .bx 89 1000007 r18.1 r18.2.size), (13, mapE KL.strs (ByteArray.empty : ByteArray) AV.str o13), (1000006, .bb 5 v1000006 o1000006), (1000007, .bb 5 r18.1 r18.2)] ⟨Le.eq (by first | rfl | simp), Le.eq (by first | rfl | simp), Le.eq (by first | rfl | simp), Le.eq (by first | rfl | simp), Le.eq (by first | rfl | simp), Le.eq (by first | rfl | simp), Le.eq (by first | rfl | simp), trivial⟩ ⟨⟨_, rfl, LeO.refl _⟩, ⟨_, rfl, LeO.refl _⟩, ⟨_, rfl, LeO.refl _⟩, ⟨_, rfl, LeO.refl _⟩, ⟨_, rfl, LeO.refl _⟩, ⟨_, rfl, LeO.refl _⟩, trivial⟩ rfl (dom0 rfl) ?_
            exact ih.1 l0 a1 x17 o13 v1000006 o1000006 r18.1 r18.2 
          · refine RT.br rfl (fun c23 => ?_) (fun c23 => ?_)
            · refine RT.call rfl (fun _ h => key_read_1.ok v1000006 o1000006 o13 v1000007 o1000007 _ h) (fun i => bif Nat.beq i 1300002 then 1000007 else bif Nat.beq i 300002 then 7 else bif Nat.beq i 700001 then 13 else bif Nat.beq i 300001 then 5 else bif Nat.beq i 1300000 then 1000006 else bif Nat.beq i 300000 then 6 else i) (LeL.eq rfl) ⟨⟨_, rfl, LeO.refl _⟩, ⟨⟨_, rfl, LeO.refl _⟩, ⟨⟨_, rfl, LeO.refl _⟩, ⟨⟨_, rfl, LeO.refl _⟩, ⟨⟨_, rfl, LeO.refl _⟩, ⟨⟨_, rfl, LeO.refl _⟩, trivial⟩⟩⟩⟩⟩⟩ (fun _ => rfl) (fun r19 => ?_)
              refine RS.go ?_
              refine RT.goto rfl ?_
              refine RS.weak [(1, .int .i64 a1), (6, .ref 6 0 0 0 2), (7, .ref 7 0 0 0 2), (8, .fn 98 [.ref 6 0 0 0 2, .ref 5 0 0 0 1, .ref 7 0 0 0 2]), (15, sq eI l0), (16, .int .i64 (l0.length : Int)), (17, .int .i64 x17)] [(5, .box [.omap 13]), (6, .bx 89 1000006 r19.1 r19.2.1.size), (7, .bx 89 1000007 r19.2.2.1 r19.2.2.2.size), (13, mapE KL.strs (ByteArray.empty : ByteArray) AV.str o13), (1000006, .bb 5 r19.1 r19.2.1), (1000007, .bb 5 r19.2.2.1 r19.2.2.2)] ⟨Le.eq (by first | rfl | simp), Le.eq (by first | rfl | simp), Le.eq (by first | rfl | simp), Le.eq (by first | rfl | simp), Le.eq (by first | rfl | simp), Le.eq (by first | rfl | simp), Le.eq (by first | rfl | simp), trivial⟩ ⟨⟨_, rfl, LeO.refl _⟩, ⟨_, rfl, LeO.refl _⟩, ⟨_, rfl, LeO.refl _⟩, ⟨_, rfl, LeO.refl _⟩, ⟨_, rfl, LeO.refl _⟩, ⟨_, rfl, LeO.refl _⟩, trivial⟩ rfl (dom0 rfl) ?_
              exact ih.1 l0 a1 x17 o13 r19.1 r19.2.1 r19.2.2.1 r19.2.2.2 
            · refine RT.br rfl (fun c22 => ?_) (fun c22 => ?_)
              · refine RT.call rfl (fun _ h => key_read_1.ok v1000006 o1000006 o13 v1000007 o1000007 _ h) (fun i => bif Nat.beq i 1300002 then 1000007 else bif Nat.beq i 300002 then 7 else bif Nat.beq i 700001 then 13 else bif Nat.beq i 300001 then 5 else bif Nat.beq i 1300000 then 1000006 else bif Nat.beq i 300000 then 6 else i) (LeL.eq rfl) ⟨⟨_, rfl, LeO.refl _⟩, ⟨⟨_, rfl, LeO.refl _⟩, ⟨⟨_, rfl, LeO.refl _⟩, ⟨⟨_, rfl, LeO.refl _⟩, ⟨⟨_, rfl, LeO.refl _⟩, ⟨⟨_, rfl, LeO.refl _⟩, trivial⟩⟩⟩⟩⟩⟩ (fun _ => rfl) (fun r20 => ?_)
                refine RS.go ?_
                refine RT.call rfl (fun _ h => strings_Builder_WriteByte.ok r20.1 r20.2.1 32 _ h) (fun i => bif Nat.beq i 1100000 then 1000006 else bif Nat.beq i 100000 then 6 else i) (LeL.eq rfl) ⟨⟨_, rfl, LeO.refl _⟩, ⟨⟨_, rfl, LeO.refl _⟩, trivial⟩⟩ (fun _ => rfl) (fun r21 => ?_)
                refine RS.go ?_
                refine RT.goto rfl ?_
                refine RS.weak [(1, .int .i64 a1), (6, .ref 6 0 0 0 2), (7, .ref 7 0 0 0 2), (8, .fn 98 [.ref 6 0 0 0 2, .ref 5 0 0 0 1, .ref 7 0 0 0 2]), (15, sq eI l0), (16, .int .i64 (l0.length : Int)), (17, .int .i64 x17)] [(5, .box [.omap 13]), (6, .bx 89 1000006 r21.1 r21.2.size), (7, .bx 89 1000007 r20.2.2.1 r20.2.2.2.size), (13, mapE KL.strs (ByteArray.empty : ByteArray) AV.str o13), (1000006, .bb 5 r21.1 r21.2), (1000007, .bb 5 r20.2.2.1 r20.2.2.2)] ⟨Le.eq (by first | rfl | simp), Le.eq (by first | rfl | simp), Le.eq (by first | rfl | simp), Le.eq (by first | rfl | simp), Le.eq (by first | rfl | simp), Le.eq (by first | rfl | simp), Le.eq (by first | rfl | simp), trivial⟩ ⟨⟨_, rfl, LeO.refl _⟩, ⟨_, rfl, LeO.refl _⟩, ⟨_, rfl, LeO.refl _⟩, ⟨_, rfl, LeO.refl _⟩, ⟨_, rfl, LeO.refl _⟩, ⟨_, rfl, LeO.refl _⟩, trivial⟩ rfl (dom0 rfl) ?_
                exact ih.1 l0 a1 x17 o13 r21.1 r21.2 r20.2.2.1 r20.2.2.2 
              · refine RT.goto rfl ?_
                refine RS.weak [(1, .int .i64 a1), (6, .ref 6 0 0 0 2), (7, .ref 7 0 0 0 2), (8, .fn 98 [.ref 6 0 0 0 2, .ref 5 0 0 0 1, .ref 7 0 0 0 2]), (15, sq eI l0), (16, .int .i64 (l0.length : Int)), (17, .int .i64 x17)] [(5, .box [.omap 13]), (6, .bx 89 1000006 v1000006 o1000006.size), (7, .bx 89 1000007 v1000007 o1000007.size), (13, mapE KL.strs (ByteArray.empty : ByteArray) AV.str o13), (1000006, .bb 5 v1000006 o1000006), (1000007, .bb 5 v1000007 o1000007)] ⟨Le.eq (by first | rfl | simp), Le.eq (by first | rfl | simp), Le.eq (by first | rfl | simp), Le.eq (by first | rfl | simp), Le.eq (by first | rfl | simp), Le.eq (by first | rfl | simp), Le.eq (by first | rfl | simp), trivial⟩ ⟨⟨_, rfl, LeO.refl _⟩, ⟨_, rfl, LeO.refl _⟩, ⟨_, rfl, LeO.refl _⟩, ⟨_, rfl, LeO.refl _⟩, ⟨_, rfl, LeO.refl _⟩, ⟨_, rfl, LeO.refl _⟩, trivial⟩ rfl (dom0 rfl) ?_
                exact ih.1 l0 a1 x17 o13 v1000006 o1000006 v1000007 o1000007 
      · refine RT.call rfl (fun _ h => key_read_1.ok v1000006 o1000006 o13 v1000007 o1000007 _ h) (fun i => bif Nat.beq i 1300002 then 1000007 else bif Nat.beq i 300002 then 7 else bif Nat.beq i 700001 then 13 else bif Nat.beq i 300001 then 5 else bif Nat.beq i 1300000 then 1000006 else bif Nat.beq i 300000 then 6 else i) (LeL.eq rfl) ⟨⟨_, rfl, LeO.refl _⟩, ⟨⟨_, rfl, LeO.refl _⟩, ⟨⟨_, rfl, LeO.refl _⟩, ⟨⟨_, rfl, LeO.refl _⟩, ⟨⟨_, rfl, LeO.refl _⟩, ⟨⟨_, rfl, LeO.refl _⟩, trivial⟩⟩⟩⟩⟩⟩ (fun _ => rfl) (fun r26 => ?_)
        refine RS.go ?_
        refine RT.call rfl (fun _ h => strings_Builder_String.ok r26.1 r26.2.1 _ h) (fun i => bif Nat.beq i 1100000 then 1000006 else bif Nat.beq i 100000 then 6 else i) (LeL.eq rfl) ⟨⟨_, rfl, LeO.refl _⟩, ⟨⟨_, rfl, LeO.refl _⟩, trivial⟩⟩ (fun _ => rfl) (fun r27 => ?_)
        refine RS.go ?_
        exact RT.done rfl rfl (Le.refl _) trivial rfl (dom0 rfl)
theorem key_read.ok (k : Nat) (l0 : List Int) (a1 : Int) (r : ByteArray) (h : key_read.f k l0 a1 = some r) : Ct Tryd.prog B 57 [sq eI l0, .int .i64 a1] (ofL []) (.str r) (ofL []) := by
  refine Ct.of (Y := (fam Tryd.f57 [17] [] [] (fun r : ByteArray => .str r) (fun r => []))) Tryd.func57 rfl Tryd.call57 rfl rfl ?_ r h
  unfold key_read.f
  refine RS.go ?_
  refine RT.call rfl (fun _ h => key_byCodes.ok k  _ h) (fun i => bif Nat.beq i 4 then 13 else i) (LeL.eq rfl) trivial (fun _ => rfl) (fun r1 => ?_)
  refine RS.go ?_
  refine RT.goto rfl ?_
  refine RS.bdnew 1000006 5 rfl ?_
  refine RS.obj 6 (.bx 89 1000006 0 ByteArray.empty.size) ⟨_, rfl, LeO.refl _⟩ ?_
  refine RS.go ?_
  refine RT.goto rfl ?_
  refine RS.bdnew 1000007 5 rfl ?_
  refine RS.obj 7 (.bx 89 1000007 0 ByteArray.empty.size) ⟨_, rfl, LeO.refl _⟩ ?_
  refine RS.go ?_
  refine RT.goto rfl ?_
  refine RS.weak [(1, .int .i64 a1), (6, .ref 6 0 0 0 2), (7, .ref 7 0 0 0 2), (8, .fn 98 [.ref 6 0 0 0 2, .ref 5 0 0 0 1, .ref 7 0 0 0 2]), (15, sq eI l0), (16, .int .i64 (l0.length : Int)), (17, .int .i64 0)] [(5, .box [.omap 13]), (6, .bx 89 1000006 0 ByteArray.empty.size), (7, .bx 89 1000007 0 ByteArray.empty.size), (13, mapE KL.strs (ByteArray.empty : ByteArray) AV.str r1), (1000006, .bb 5 0 ByteArray.empty), (1000007, .bb 5 0 ByteArray.empty)] ⟨Le.eq (by first | rfl | simp), Le.eq (by first | rfl | simp), Le.eq (by first | rfl | simp), Le.eq (by first | rfl | simp), Le.eq (by first | rfl | simp), Le.eq (by first | rfl | simp), Le.eq (by first | rfl | simp), trivial⟩ ⟨⟨_, rfl, LeO.refl _⟩, ⟨_, rfl, LeO.refl _⟩, ⟨_, rfl, LeO.refl _⟩, ⟨_, rfl, LeO.refl _⟩, ⟨_, rfl, LeO.refl _⟩, ⟨_, rfl, LeO.refl _⟩, trivial⟩ rfl (dom0 rfl) ?_
  exact (key_read.loops k).2 l0 a1 0 r1 0 ByteArray.empty 0 ByteArray.empty 
/-! ### key_offOf: function 58 -/
mutual
def key_offOf.j9 : Nat → List Int → Int → Int → Int → Int → Option (Int)
  | 0, _, _, _, _, _ => Option.none
  | k + 1, l0, a1, x5, x11, x8j9 => key_offOf.l0 k l0 a1 (wrap64 (x5 + x8j9)) (wrap64 (x11 + 1))
def key_offOf.l0 : Nat → List Int → Int → Int → Int → Option (Int)
  | 0, _, _, _, _ => Option.none
  | k + 1, l0, a1, x5, x11 => (if x11 < (l0.length : Int) then (if 0 ≤ x11 then (if x11 < (l0.length : Int) then ((key_isMark.f x11).bind fun r3 => (if r3 = true then key_offOf.j9 k l0 a1 x5 x11 (mn (mx (wrap64 ((rd l0 x11) - a1)) (wrap64 (a1 - (rd l0 x11)))) (mx (wrap64 ((rd l0 x11) - (wrap64 (3 * a1)))) (wrap64 ((wrap64 (3 * a1)) - (rd l0 x11))))) else key_offOf.j9 k l0 a1 x5 x11 (mn (mn (mx (wrap64 ((rd l0 x11) - a1)) (wrap64 (a1 - (rd l0 x11)))) (mx (wrap64 ((rd l0 x11) - (wrap64 (3 * a1)))) (wrap64 ((wrap64 (3 * a1)) - (rd l0 x11))))) (mx (wrap64 ((rd l0 x11) - (wrap64 (7 * a1)))) (wrap64 ((wrap64 (7 * a1)) - (rd l0 x11))))))) else Option.none) else Option.none) else Option.some x5)
end
def key_offOf.f (k : Nat) (l0 : List Int) (a1 : Int) : Option (Int) := key_offOf.l0 k l0 a1 0 0
theorem key_offOf.loops : ∀ k, (∀ (l0 : List Int) (a1 : Int) (x5 : Int) (x11 : Int) (x8j9 : Int), RS (fam Tryd.f58 [9] [] [] (fun r : Int => .int .i64 r) (fun r => [])) (Func.reg Tryd.f58 9) ⟨ofT [(1, .int .i64 a1), (5, .int .i64 x5), (8, .int .i64 x8j9), (9, sq eI l0), (10, .int .i64 (l0.length : Int)), (11, .int .i64 x11)], ofL []⟩ (key_offOf.j9 k l0 a1 x5 x11 x8j9)) ∧ (∀ (l0 : List Int) (a1 : Int) (x5 : Int) (x11 : Int), RS (fam Tryd.f58 [9] [] [] (fun r : Int => .int .i64 r) (fun r => [])) (Func.head Tryd.f58 0) ⟨ofT [(1, .int .i64 a1), (5, .int .i64 x5), (9, sq eI l0), (10, .int .i64 (l0.length : Int)), (11, .int .i64 x11)], ofL []⟩ (key_offOf.l0 k l0 a1 x5 x11))
  | 0 => ⟨by intro _ _ _ _ _; simp only [key_offOf.j9]; exact RS.none, by intro _ _ _ _; simp only [key_offOf.l0]; exact RS.none⟩
  | k + 1 => by
    have ih := key_offOf.loops k
    refine ⟨?_, ?_⟩
    · intro l0 a1 x5 x11 x8j9
      simp only [key_offOf.j9]
      refine RS.region ?_
      refine RS.go ?_
      refine RT.goto rfl ?_
      refine RS.weak [(1, .int .i64 a1), (5, .int .i64 (wrap64 (x5 + x8j9))), (9, sq eI l0), (10, .int .i64 (l0.length : Int)), (11, .int .i64 (wrap64 (x11 + 1)))] [] ⟨Le.eq (by first | rfl | simp), Le.eq (by first | rfl | simp), Le.eq (by first | rfl | simp), Le.eq (by first | rfl | simp), Le.eq (by first | rfl | simp), trivial⟩ trivial rfl (dom0 rfl) ?_
      exact ih.2 l0 a1 (wrap64 (x5 + x8j9)) (wrap64 (x11 + 1)) 
    · intro l0 a1 x5 x11
      simp only [key_offOf.l0]
      refine RS.go ?_
      refine RT.br rfl (fun c5 => ?_) (fun c5 => ?_)
      · refine RT.br rfl (fun c1 => ?_) (fun c1 => RT.none)
        refine RT.br rfl (fun c2 => ?_) (fun c2 => RT.none)
        refine RT.call0 rfl (fun _ h => key_isMark.ok x11 _ h) (LeL.eq rfl) (fun _ => rfl) (fun r3 => ?_)
        refine RS.go ?_
        refine RT.brBN rfl (fun c4 => ?_) (fun c4 => ?_)
        · refine RT.goto rfl ?_
          refine RS.weak [(1, .int .i64 a1), (5, .int .i64 x5), (8, .int .i64 (mn (mx (wrap64 ((rd l0 x11) - a1)) (wrap64 (a1 - (rd l0 x11)))) (mx (wrap64 ((rd l0 x11) - (wrap64 (3 * a1)))) (wrap64 ((wrap64 (3 * a1)) - (rd l0 x11)))))), (9, sq eI l0), (10, .int .i64 (l0.length : Int)), (11, .int .i64 x11)] [] ⟨Le.eq (by first | rfl | simp), Le.eq (by first | rfl | simp), Le.eq (by first | rfl | simp), Le.eq (by first | rfl | simp), Le.eq (by first | rfl | simp), Le.eq (by first | rfl | simp), trivial⟩ trivial rfl (dom0 rfl) ?_
          exact ih.1 l0 a1 x5 x11 (mn (mx (wrap64 ((rd l0 x11) - a1)) (wrap64 (a1 - (rd l0 x11)))) (mx (wrap64 ((rd l0 x11) - (wrap64 (3 * a1)))) (wrap64 ((wrap64 (3 * a1)) - (rd l0 x11))))) 
        · refine RT.goto rfl ?_
          refine RS.weak [(1, .int .i64 a1), (5, .int .i64 x5), (8, .int .i64 (mn (mn (mx (wrap64 ((rd l0 x11) - a1)) (wrap64 (a1 - (rd l0 x11)))) (mx (wrap64 ((rd l0 x11) - (wrap64 (3 * a1)))) (wrap64 ((wrap64 (3 * a1)) - (rd l0 x11))))) (mx (wrap64 ((rd l0 x11) - (wrap64 (7 * a1)))) (wrap64 ((wrap64 (7 * a1)) - (rd l0 x11)))))), (9, sq eI l0), (10, .int .i64 (l0.length : Int)), (11, .int .i64 x11)] [] ⟨Le.eq (by first | rfl | simp), Le.eq (by first | rfl | simp), Le.eq (by first | rfl | simp), Le.eq (by first | rfl | simp), Le.eq (by first | rfl | simp), Le.eq (by first | rfl | simp), trivial⟩ trivial rfl (dom0 rfl) ?_
          exact ih.1 l0 a1 x5 x11 (mn (mn (mx (wrap64 ((rd l0 x11) - a1)) (wrap64 (a1 - (rd l0 x11)))) (mx (wrap64 ((rd l0 x11) - (wrap64 (3 * a1)))) (wrap64 ((wrap64 (3 * a1)) - (rd l0 x11))))) (mx (wrap64 ((rd l0 x11) - (wrap64 (7 * a1)))) (wrap64 ((wrap64 (7 * a1)) - (rd l0 x11))))) 
      · exact RT.done rfl rfl (Le.refl _) trivial rfl (dom0 rfl)
theorem key_offOf.ok (k : Nat) (l0 : List Int) (a1 : Int) (r : Int) (h : key_offOf.f k l0 a1 = some r) : Ct Tryd.prog B 58 [sq eI l0, .int .i64 a1] (ofL []) (.int .i64 r) (ofL []) := by
  refine Ct.of (Y := (fam Tryd.f58 [9] [] [] (fun r : Int => .int .i64 r) (fun r => []))) Tryd.func58 rfl Tryd.call58 rfl rfl ?_ r h
  unfold key_offOf.f
  refine RS.go ?_
  refine RT.goto rfl ?_
  refine RS.weak [(1, .int .i64 a1), (5, .int .i64 0), (9, sq eI l0), (10, .int .i64 (l0.length : Int)), (11, .int .i64 0)] [] ⟨Le.eq (by first | rfl | simp), Le.eq (by first | rfl | simp), Le.eq (by first | rfl | simp), Le.eq (by first | rfl | simp), Le.eq (by first | rfl | simp), trivial⟩ trivial rfl (dom0 rfl) ?_
  exact (key_offOf.loops k).2 l0 a1 0 0 
/-! ### key_With: function 13 -/
def key_With.f (k : Nat) (l0 : List Int) (a1 : Int) : Option (ByteArray × Int × Int) := ((key_unitFault.f k l0 a1).bind fun r1 => (if r1 = 0 then ((key_read.f k l0 a1).bind fun r2 => ((key_offOf.f k l0 a1).bind fun r3 => Option.some (r2, r3, 0))) else Option.some ((⟨#[]⟩ : ByteArray), 0, r1)))
theorem key_With.ok (k : Nat) (l0 : List Int) (a1 : Int) (r : ByteArray × Int × Int) (h : key_With.f k l0 a1 = some r) : Ct Tryd.prog B 13 [sq eI l0, .int .i64 a1] (ofL []) (.tup [.str r.1, .int .i64 r.2.1, .int .i64 r.2.2]) (ofL []) := by
  refine Ct.of (Y := (fam Tryd.f13 [] [] [] (fun r : ByteArray × Int × Int => .tup [.str r.1, .int .i64 r.2.1, .int .i64 r.2.2]) (fun r => []))) Tryd.func13 rfl Tryd.call13 rfl rfl ?_ r h
  unfold key_With.f
  refine RS.go ?_
  refine RT.call0 rfl (fun _ h => key_unitFault.ok k l0 a1 _ h) (LeL.eq rfl) (fun _ => rfl) (fun r1 => ?_)
  refine RS.go ?_
  refine RT.brN rfl (fun c4 => ?_) (fun c4 => ?_)
  · refine RT.call0 rfl (fun _ h => key_read.ok k l0 a1 _ h) (LeL.eq rfl) (fun _ => rfl) (fun r2 => ?_)
    refine RS.go ?_
    refine RT.call0 rfl (fun _ h => key_offOf.ok k l0 a1 _ h) (LeL.eq rfl) (fun _ => rfl) (fun r3 => ?_)
    refine RS.go ?_
    exact RT.done rfl rfl (Le.tup (LeL.cons (Le.refl _) (LeL.cons (Le.refl _) (LeL.cons (Le.refl _) (LeL.nil))))) trivial rfl (dom0 rfl)
  · exact RT.done rfl rfl (Le.tup (LeL.cons (Le.refl _) (LeL.cons (Le.refl _) (LeL.cons (Le.refl _) (LeL.nil))))) trivial rfl (dom0 rfl)
/-! ### key_Uneven: function 14 -/
mutual
def key_Uneven.j11 : Nat → List Int → Int → Int → List Int → Option ((List Int) × Int)
  | 0, _, _, _, _ => Option.none
  | k + 1, l0, a1, x20, o7j11 => key_Uneven.l0 k l0 a1 (wrap64 (x20 + 1)) o7j11
def key_Uneven.l0 : Nat → List Int → Int → Int → List Int → Option ((List Int) × Int)
  | 0, _, _, _, _ => Option.none
  | k + 1, l0, a1, x20, o7 => (if x20 < (l0.length : Int) then (if 0 ≤ x20 then (if x20 < (l0.length : Int) then ((key_isMark.f x20).bind fun r4 => ((key_nearest.f k (rd l0 x20) a1 r4).bind fun r5 => (if wrap64 (2 * r5.2) > a1 then (if o7.length + 1 ≤ 549755813888 then key_Uneven.j11 k l0 a1 x20 (o7 ++ [x20]) else Option.none) else key_Uneven.j11 k l0 a1 x20 o7))) else Option.none) else Option.none) else Option.some (o7, 0))
end
def key_Uneven.f (k : Nat) (l0 : List Int) (a1 : Int) : Option ((List Int) × Int) := ((key_unitFault.f k l0 a1).bind fun r1 => (if r1 = 0 then key_Uneven.l0 k l0 a1 0 [] else Option.some ([], r1)))
theorem key_Uneven.loops : ∀ k, (∀ (l0 : List Int) (a1 : Int) (x20 : Int) (o7j11 : List Int), RS (fam Tryd.f14 [11] [] [] (fun r : (List Int) × Int => .tup [sq eI r.1, .int .i64 r.2]) (fun r => [])) (Func.reg Tryd.f14 11) ⟨ofT [(1, .int .i64 a1), (7, .osl 7 eI.w 0 o7j11.length o7j11.length), (18, sq eI l0), (19, .int .i64 (l0.length : Int)), (20, .int .i64 x20)], ofL [(7, bufE eI o7j11)]⟩ (key_Uneven.j11 k l0 a1 x20 o7j11)) ∧ (∀ (l0 : List Int) (a1 : Int) (x20 : Int) (o7 : List Int), RS (fam Tryd.f14 [11] [] [] (fun r : (List Int) × Int => .tup [sq eI r.1, .int .i64 r.2]) (fun r => [])) (Func.head Tryd.f14 0) ⟨ofT [(1, .int .i64 a1), (7, .osl 7 eI.w 0 o7.length o7.length), (18, sq eI l0), (19, .int .i64 (l0.length : Int)), (20, .int .i64 x20)], ofL [(7, bufE eI o7)]⟩ (key_Uneven.l0 k l0 a1 x20 o7))
  | 0 => ⟨by intro _ _ _ _; simp only [key_Uneven.j11]; exact RS.none, by intro _ _ _ _; simp only [key_Uneven.l0]; exact RS.none⟩
  | k + 1 => by
    have ih := key_Uneven.loops k
    refine ⟨?_, ?_⟩
    · intro l0 a1 x20 o7j11
      simp only [key_Uneven.j11]
      refine RS.region ?_
      refine RS.go ?_
      refine RT.goto rfl ?_
      refine RS.weak [(1, .int .i64 a1), (7, .osl 7 eI.w 0 o7j11.length o7j11.length), (18, sq eI l0), (19, .int .i64 (l0.length : Int)), (20, .int .i64 (wrap64 (x20 + 1)))] [(7, bufE eI o7j11)] ⟨Le.eq (by first | rfl | simp), (by first | exact Le.oslN rfl (by first | rfl | simp) | exact Le.refl _ | exact Le.eq (by first | rfl | simp)), Le.eq (by first | rfl | simp), Le.eq (by first | rfl | simp), Le.eq (by first | rfl | simp), trivial⟩ ⟨⟨_, rfl, LeO.refl _⟩, trivial⟩ rfl (dom0 rfl) ?_
      exact ih.2 l0 a1 (wrap64 (x20 + 1)) o7j11 
    · intro l0 a1 x20 o7
      simp only [key_Uneven.l0]
      refine RS.go ?_
      refine RT.br rfl (fun c8 => ?_) (fun c8 => ?_)
      · refine RT.br rfl (fun c2 => ?_) (fun c2 => RT.none)
        refine RT.br rfl (fun c3 => ?_) (fun c3 => RT.none)
        refine RT.call0 rfl (fun _ h => key_isMark.ok x20 _ h) (LeL.eq rfl) (fun _ => rfl) (fun r4 => ?_)
        refine RS.go ?_
        refine RT.call0 rfl (fun _ h => key_nearest.ok k (rd l0 x20) a1 r4 _ h) (LeL.eq rfl) (fun _ => rfl) (fun r5 => ?_)
        refine RS.go ?_
        refine RT.br rfl (fun c7 => ?_) (fun c7 => ?_)
        · refine RT.goto rfl ?_
          refine RS.slot 39 (sq eI [x20]) (Le.lit (E := eI) (l := [x20]) (cells_of rfl)) ?_
          refine RS.go ?_
          refine RT.req rfl ⟨by first | rfl | simp, by first | exact Nat.le_refl _ | simp⟩ ?_
          refine RT.not rfl (by simp <;> omega) ?_
          refine RT.br rfl (fun c6 => ?_) (fun _ => RT.none)
          refine RT.goto rfl ?_
          refine RS.obj 7 (bufE eI (o7 ++ [x20])) ⟨_, rfl, LeO.app (l := o7) (m := [x20]) fun _ _ _ _ => rfl⟩ ?_
          refine RS.slot 40 (.osl 7 eI.w 0 (o7 ++ [x20]).length (o7 ++ [x20]).length) (by first | exact Le.oslN rfl (by simp) | exact Le.trans (y := .osl 7 eI.w 0 (o7.length + 1) (o7.length + 1)) (Le.refl _) (Le.oslN rfl (by simp))) ?_
          refine RS.go ?_
          refine RT.goto rfl ?_
          refine RS.weak [(1, .int .i64 a1), (7, .osl 7 eI.w 0 (o7 ++ [x20]).length (o7 ++ [x20]).length), (18, sq eI l0), (19, .int .i64 (l0.length : Int)), (20, .int .i64 x20)] [(7, bufE eI (o7 ++ [x20]))] ⟨Le.eq (by first | rfl | simp), (by first | exact Le.oslN rfl (by first | rfl | simp) | exact Le.refl _ | exact Le.eq (by first | rfl | simp)), Le.eq (by first | rfl | simp), Le.eq (by first | rfl | simp), Le.eq (by first | rfl | simp), trivial⟩ ⟨⟨_, rfl, LeO.refl _⟩, trivial⟩ rfl (dom0 rfl) ?_
          exact ih.1 l0 a1 x20 (o7 ++ [x20]) 
        · refine RT.goto rfl ?_
          refine RS.weak [(1, .int .i64 a1), (7, .osl 7 eI.w 0 o7.length o7.length), (18, sq eI l0), (19, .int .i64 (l0.length : Int)), (20, .int .i64 x20)] [(7, bufE eI o7)] ⟨Le.eq (by first | rfl | simp), (by first | exact Le.oslN rfl (by first | rfl | simp) | exact Le.refl _ | exact Le.eq (by first | rfl | simp)), Le.eq (by first | rfl | simp), Le.eq (by first | rfl | simp), Le.eq (by first | rfl | simp), trivial⟩ ⟨⟨_, rfl, LeO.refl _⟩, trivial⟩ rfl (dom0 rfl) ?_
          exact ih.1 l0 a1 x20 o7 
      · refine RT.freeze 7 _ _ _ [(4, sq eI o7), (5, .int .i64 0)] [] rfl rfl ⟨.inr ⟨_, rfl, by first | exact Nat.le_refl _ | simp, rfl⟩, .inl (Le.refl _), trivial⟩ trivial rfl (dom0 rfl) ?_
        exact RT.done rfl rfl (Le.tup (LeL.cons (Le.refl _) (LeL.cons (Le.refl _) (LeL.nil)))) trivial rfl (dom0 rfl)
theorem key_Uneven.ok (k : Nat) (l0 : List Int) (a1 : Int) (r : (List Int) × Int) (h : key_Uneven.f k l0 a1 = some r) : Ct Tryd.prog B 14 [sq eI l0, .int .i64 a1] (ofL []) (.tup [sq eI r.1, .int .i64 r.2]) (ofL []) := by
  refine Ct.of (Y := (fam Tryd.f14 [11] [] [] (fun r : (List Int) × Int => .tup [sq eI r.1, .int .i64 r.2]) (fun r => []))) Tryd.func14 rfl Tryd.call14 rfl rfl ?_ r h
  unfold key_Uneven.f
  refine RS.go ?_
  refine RT.call0 rfl (fun _ h => key_unitFault.ok k l0 a1 _ h) (LeL.eq rfl) (fun _ => rfl) (fun r1 => ?_)
  refine RS.go ?_
  refine RT.brN rfl (fun c9 => ?_) (fun c9 => ?_)
  · refine RT.goto rfl ?_
    refine RS.ghost 7 7 eI.w (rep eI []) rfl rfl ?_
    refine RS.weak [(1, .int .i64 a1), (7, .osl 7 eI.w 0 ([] : List Int).length ([] : List Int).length), (18, sq eI l0), (19, .int .i64 (l0.length : Int)), (20, .int .i64 0)] [(7, bufE eI ([] : List Int))] ⟨Le.eq (by first | rfl | simp), (by first | exact Le.oslN rfl (by first | rfl | simp) | exact Le.refl _ | exact Le.eq (by first | rfl | simp)), Le.eq (by first | rfl | simp), Le.eq (by first | rfl | simp), Le.eq (by first | rfl | simp), trivial⟩ ⟨⟨_, rfl, LeO.refl _⟩, trivial⟩ rfl (dom0 rfl) ?_
    exact (key_Uneven.loops k).2 l0 a1 0 [] 
  · exact RT.done rfl rfl (Le.tup (LeL.cons (Le.nil _ _) (LeL.cons (Le.refl _) (LeL.nil)))) trivial rfl (dom0 rfl)
/-! ### key_Hear: function 15 -/
mutual
def key_Hear.j7 : Nat → List Int → Int → Int → Int → Option (ByteArray × Int × Int × Bool × Int)
  | 0, _, _, _, _ => Option.none
  | k + 1, l0, x8, x6j7, x7j7 => key_Hear.l0 k l0 x6j7 x7j7 (wrap64 (x8 + 1))
def key_Hear.l0 : Nat → List Int → Int → Int → Int → Option (ByteArray × Int × Int × Bool × Int)
  | 0, _, _, _, _ => Option.none
  | k + 1, l0, x6, x7, x8 => (if x8 ≤ 2000 then ((key_offOf.f k l0 x8).bind fun r2 => (if x6 = 0 then key_Hear.j7 k l0 x8 x8 r2 else (if r2 ≤ x7 then key_Hear.j7 k l0 x8 x8 r2 else key_Hear.j7 k l0 x8 x6 x7))) else ((key_read.f k l0 x6).bind fun r5 => (if (r5.size : Int) > 500 then Option.some ((⟨#[]⟩ : ByteArray), 0, 0, false, 0) else Option.some (r5, x6, x7, true, 0))))
end
def key_Hear.f (k : Nat) (l0 : List Int) : Option (ByteArray × Int × Int × Bool × Int) := ((key_CheckMarks.f k l0).bind fun r1 => (if r1 = 0 then key_Hear.l0 k l0 0 0 1 else Option.some ((⟨#[]⟩ : ByteArray), 0, 0, false, r1)))
theorem key_Hear.loops : ∀ k, (∀ (l0 : List Int) (x8 : Int) (x6j7 : Int) (x7j7 : Int), RS (fam Tryd.f15 [7] [] [] (fun r : ByteArray × Int × Int × Bool × Int => .tup [.agg [.str r.1, .int .i64 r.2.1, .int .i64 r.2.2.1], .bool r.2.2.2.1, .int .i64 r.2.2.2.2]) (fun r => [])) (Func.reg Tryd.f15 7) ⟨ofT [(0, sq eI l0), (2, .ref 2 0 0 0 3), (6, .int .i64 x6j7), (7, .int .i64 x7j7), (8, .int .i64 x8)], ofL [(2, .box [.str (⟨#[]⟩ : ByteArray), .int .i64 0, .int .i64 0])]⟩ (key_Hear.j7 k l0 x8 x6j7 x7j7)) ∧ (∀ (l0 : List Int) (x6 : Int) (x7 : Int) (x8 : Int), RS (fam Tryd.f15 [7] [] [] (fun r : ByteArray × Int × Int × Bool × Int => .tup [.agg [.str r.1, .int .i64 r.2.1, .int .i64 r.2.2.1], .bool r.2.2.2.1, .int .i64 r.2.2.2.2]) (fun r => [])) (Func.head Tryd.f15 0) ⟨ofT [(0, sq eI l0), (2, .ref 2 0 0 0 3), (6, .int .i64 x6), (7, .int .i64 x7), (8, .int .i64 x8)], ofL [(2, .box [.str (⟨#[]⟩ : ByteArray), .int .i64 0, .int .i64 0])]⟩ (key_Hear.l0 k l0 x6 x7 x8))
  | 0 => ⟨by intro _ _ _ _; simp only [key_Hear.j7]; exact RS.none, by intro _ _ _ _; simp only [key_Hear.l0]; exact RS.none⟩
  | k + 1 => by
    have ih := key_Hear.loops k
    refine ⟨?_, ?_⟩
    · intro l0 x8 x6j7 x7j7
      simp only [key_Hear.j7]
      refine RS.region ?_
      refine RS.go ?_
      refine RT.goto rfl ?_
      refine RS.weak [(0, sq eI l0), (2, .ref 2 0 0 0 3), (6, .int .i64 x6j7), (7, .int .i64 x7j7), (8, .int .i64 (wrap64 (x8 + 1)))] [(2, .box [.str (⟨#[]⟩ : ByteArray), .int .i64 0, .int .i64 0])] ⟨Le.eq (by first | rfl | simp), Le.eq (by first | rfl | simp), Le.eq (by first | rfl | simp), Le.eq (by first | rfl | simp), Le.eq (by first | rfl | simp), trivial⟩ ⟨⟨_, rfl, LeO.refl _⟩, trivial⟩ rfl (dom0 rfl) ?_
      exact ih.2 l0 x6j7 x7j7 (wrap64 (x8 + 1)) 
    · intro l0 x6 x7 x8
      simp only [key_Hear.l0]
      refine RS.go ?_
      refine RT.br rfl (fun c7 => ?_) (fun c7 => ?_)
      · refine RT.call0 rfl (fun _ h => key_offOf.ok k l0 x8 _ h) (LeL.eq rfl) (fun _ => rfl) (fun r2 => ?_)
        refine RS.go ?_
        refine RT.br rfl (fun c4 => ?_) (fun c4 => ?_)
        · refine RT.brT rfl ?_
          refine RT.brT rfl ?_
          refine RT.brT rfl ?_
          refine RT.brT rfl ?_
          refine RT.goto rfl ?_
          refine RS.weak [(0, sq eI l0), (2, .ref 2 0 0 0 3), (6, .int .i64 x8), (7, .int .i64 r2), (8, .int .i64 x8)] [(2, .box [.str (⟨#[]⟩ : ByteArray), .int .i64 0, .int .i64 0])] ⟨Le.eq (by first | rfl | simp), Le.eq (by first | rfl | simp), Le.eq (by first | rfl | simp), Le.eq (by first | rfl | simp), Le.eq (by first | rfl | simp), trivial⟩ ⟨⟨_, rfl, LeO.refl _⟩, trivial⟩ rfl (dom0 rfl) ?_
          exact ih.1 l0 x8 x8 r2 
        · refine RT.brF rfl ?_
          refine RT.brF rfl ?_
          refine RT.brF rfl ?_
          refine RT.br rfl (fun c3 => ?_) (fun c3 => ?_)
          · refine RT.goto rfl ?_
            refine RS.weak [(0, sq eI l0), (2, .ref 2 0 0 0 3), (6, .int .i64 x8), (7, .int .i64 r2), (8, .int .i64 x8)] [(2, .box [.str (⟨#[]⟩ : ByteArray), .int .i64 0, .int .i64 0])] ⟨Le.eq (by first | rfl | simp), Le.eq (by first | rfl | simp), Le.eq (by first | rfl | simp), Le.eq (by first | rfl | simp), Le.eq (by first | rfl | simp), trivial⟩ ⟨⟨_, rfl, LeO.refl _⟩, trivial⟩ rfl (dom0 rfl) ?_
            exact ih.1 l0 x8 x8 r2 
          · refine RT.goto rfl ?_
            refine RS.weak [(0, sq eI l0), (2, .ref 2 0 0 0 3), (6, .int .i64 x6), (7, .int .i64 x7), (8, .int .i64 x8)] [(2, .box [.str (⟨#[]⟩ : ByteArray), .int .i64 0, .int .i64 0])] ⟨Le.eq (by first | rfl | simp), Le.eq (by first | rfl | simp), Le.eq (by first | rfl | simp), Le.eq (by first | rfl | simp), Le.eq (by first | rfl | simp), trivial⟩ ⟨⟨_, rfl, LeO.refl _⟩, trivial⟩ rfl (dom0 rfl) ?_
            exact ih.1 l0 x8 x6 x7 
      · refine RT.call0 rfl (fun _ h => key_read.ok k l0 x6 _ h) (LeL.eq rfl) (fun _ => rfl) (fun r5 => ?_)
        refine RS.go ?_
        refine RT.br rfl (fun c6 => ?_) (fun c6 => ?_)
        · exact RT.done rfl rfl (Le.tup (LeL.cons (Le.refl _) (LeL.cons (Le.refl _) (LeL.cons (Le.refl _) (LeL.nil))))) trivial rfl (dom0 rfl)
        · exact RT.done rfl rfl (Le.tup (LeL.cons (Le.refl _) (LeL.cons (Le.refl _) (LeL.cons (Le.refl _) (LeL.nil))))) trivial rfl (dom0 rfl)
theorem key_Hear.ok (k : Nat) (l0 : List Int) (r : ByteArray × Int × Int × Bool × Int) (h : key_Hear.f k l0 = some r) : Ct Tryd.prog B 15 [sq eI l0] (ofL []) (.tup [.agg [.str r.1, .int .i64 r.2.1, .int .i64 r.2.2.1], .bool r.2.2.2.1, .int .i64 r.2.2.2.2]) (ofL []) := by
  refine Ct.of (Y := (fam Tryd.f15 [7] [] [] (fun r : ByteArray × Int × Int × Bool × Int => .tup [.agg [.str r.1, .int .i64 r.2.1, .int .i64 r.2.2.1], .bool r.2.2.2.1, .int .i64 r.2.2.2.2]) (fun r => []))) Tryd.func15 rfl Tryd.call15 rfl rfl ?_ r h
  unfold key_Hear.f
  refine RS.go ?_
  refine RT.call0 rfl (fun _ h => key_CheckMarks.ok k l0 _ h) (LeL.eq rfl) (fun _ => rfl) (fun r1 => ?_)
  refine RS.go ?_
  refine RT.brN rfl (fun c8 => ?_) (fun c8 => ?_)
  · refine RT.goto rfl ?_
    refine RS.weak [(0, sq eI l0), (2, .ref 2 0 0 0 3), (6, .int .i64 0), (7, .int .i64 0), (8, .int .i64 1)] [(2, .box [.str (⟨#[]⟩ : ByteArray), .int .i64 0, .int .i64 0])] ⟨Le.eq (by first | rfl | simp), Le.eq (by first | rfl | simp), Le.eq (by first | rfl | simp), Le.eq (by first | rfl | simp), Le.eq (by first | rfl | simp), trivial⟩ ⟨⟨_, rfl, LeO.refl _⟩, trivial⟩ rfl (dom0 rfl) ?_
    exact (key_Hear.loops k).2 l0 0 0 1 
  · exact RT.done rfl rfl (Le.tup (LeL.cons (Le.refl _) (LeL.cons (Le.refl _) (LeL.cons (Le.refl _) (LeL.nil))))) trivial rfl (dom0 rfl)
/-! ### key_closed: function 62 -/
def key_closed.k0 : List DK := [⟨[40, 39], [10], [], [10]⟩, ⟨[23, 26], [10], [40], []⟩, ⟨[28, 38], [], [39], []⟩, ⟨[32, 37], [], [38], []⟩, ⟨[36], [], [37], []⟩, ⟨[33, 35], [], [36], []⟩, ⟨[34], [], [35], []⟩, ⟨[6], [], [34], []⟩, ⟨[0], [], [33], []⟩, ⟨[31], [], [32], []⟩, ⟨[29, 30], [], [31], []⟩, ⟨[6], [], [30], []⟩, ⟨[0], [], [29], []⟩, ⟨[27], [10], [28], []⟩, ⟨[23, 26], [10], [27], []⟩, ⟨[25], [], [26], []⟩, ⟨[24], [10], [25], []⟩, ⟨[5], [], [24], []⟩, ⟨[5], [], [23], []⟩]
def key_closed.k1 : List Nat := [0, 0, 2, 6, 15, 31, 0, 0, 192, 448, 0, 0, 2048, 7168, 15360, 32704, 65535, 131071, 262143]
def key_closed.k2 : List DK := [⟨[52], [], [5], []⟩, ⟨[41, 51], [52, 10], [52], [10]⟩, ⟨[45, 50], [51], [51], []⟩, ⟨[49], [], [50], []⟩, ⟨[46, 48], [], [49], []⟩, ⟨[47], [], [48], []⟩, ⟨[6], [], [47], []⟩, ⟨[0], [], [46], []⟩, ⟨[44], [], [45], []⟩, ⟨[42, 43], [], [44], []⟩, ⟨[6], [], [43], []⟩, ⟨[0], [], [42], []⟩, ⟨[5], [], [41], []⟩]
def key_closed.k3 : List Nat := [0, 0, 0, 6, 14, 0, 0, 64, 224, 480, 1022, 2047, 4095]
mutual
def key_closed.j4 : Nat → List Int → Int → Int → List Int → Option ((List Int))
  | 0, _, _, _, _ => Option.none
  | k + 1, l0, a1, x6, o10j4 => key_closed.l0 k l0 a1 (wrap64 (x6 + 2)) o10j4
def key_closed.l0 : Nat → List Int → Int → Int → List Int → Option ((List Int))
  | 0, _, _, _, _ => Option.none
  | k + 1, l0, a1, x6, o10 => (if x6 < (l0.length : Int) then (if 0 ≤ x6 then (if x6 < (l0.length : Int) then (if (rd l0 x6) < a1 then (if 0 ≤ wrap64 ((o10.length : Int) - 1) then (if wrap64 ((o10.length : Int) - 1) < (o10.length : Int) then (if 0 ≤ x6 then (if x6 < (l0.length : Int) then (if 0 ≤ wrap64 (x6 + 1) then (if wrap64 (x6 + 1) < (l0.length : Int) then (if 0 ≤ wrap64 ((o10.length : Int) - 1) then (if wrap64 ((o10.length : Int) - 1) < (o10.length : Int) then key_closed.j4 k l0 a1 x6 (o10.set ((wrap64 ((o10.length : Int) - 1))).toNat (wrap64 ((rd o10 (wrap64 ((o10.length : Int) - 1))) + (wrap64 ((rd l0 x6) + (rd l0 (wrap64 (x6 + 1)))))))) else Option.none) else Option.none) else Option.none) else Option.none) else Option.none) else Option.none) else Option.none) else Option.none) else (if 0 ≤ x6 then (if x6 < (l0.length : Int) then (if 0 ≤ wrap64 (x6 + 1) then (if wrap64 (x6 + 1) < (l0.length : Int) then (if o10.length + [(rd l0 x6), (rd l0 (wrap64 (x6 + 1)))].length ≤ 549755813888 then key_closed.j4 k l0 a1 x6 (o10 ++ [(rd l0 x6), (rd l0 (wrap64 (x6 + 1)))]) else Option.none) else Option.none) else Option.none) else Option.none) else Option.none)) else Option.none) else Option.none) else Option.some o10)
end
def key_closed.f (k : Nat) (l0 : List Int) (a1 : Int) : Option ((List Int)) := (if 0 < (l0.length : Int) then key_closed.l0 k l0 a1 1 [(rd l0 0)] else Option.none)
theorem key_closed.loops : ∀ k, (∀ (l0 : List Int) (a1 : Int) (x6 : Int) (o10j4 : List Int), RS (fam Tryd.f62 [4] [10] [] (fun r : (List Int) => sq eI r) (fun r => [])) (Func.reg Tryd.f62 4) ⟨ofT [(0, sq eI l0), (1, .int .i64 a1), (5, .osl 10 eI.w 0 o10j4.length o10j4.length), (6, .int .i64 x6)], ofL [(10, bufE eI o10j4)]⟩ (key_closed.j4 k l0 a1 x6 o10j4)) ∧ (∀ (l0 : List Int) (a1 : Int) (x6 : Int) (o10 : List Int), RS (fam Tryd.f62 [4] [10] [] (fun r : (List Int) => sq eI r) (fun r => [])) (Func.head Tryd.f62 0) ⟨ofT [(0, sq eI l0), (1, .int .i64 a1), (5, .osl 10 eI.w 0 o10.length o10.length), (6, .int .i64 x6)], ofL [(10, bufE eI o10)]⟩ (key_closed.l0 k l0 a1 x6 o10))
  | 0 => ⟨by intro _ _ _ _; simp only [key_closed.j4]; exact RS.none, by intro _ _ _ _; simp only [key_closed.l0]; exact RS.none⟩
  | k + 1 => by
    have ih := key_closed.loops k
    refine ⟨?_, ?_⟩
    · intro l0 a1 x6 o10j4
      simp only [key_closed.j4]
      refine RS.region ?_
      refine RS.go ?_
      refine RT.goto rfl ?_
      refine RS.weak [(0, sq eI l0), (1, .int .i64 a1), (5, .osl 10 eI.w 0 o10j4.length o10j4.length), (6, .int .i64 (wrap64 (x6 + 2)))] [(10, bufE eI o10j4)] ⟨Le.eq (by first | rfl | simp), Le.eq (by first | rfl | simp), (by first | exact Le.oslN rfl (by first | rfl | simp) | exact Le.refl _ | exact Le.eq (by first | rfl | simp)), Le.eq (by first | rfl | simp), trivial⟩ ⟨⟨_, rfl, LeO.refl _⟩, trivial⟩ rfl (dom0 rfl) ?_
      exact ih.2 l0 a1 (wrap64 (x6 + 2)) o10j4 
    · intro l0 a1 x6 o10
      simp only [key_closed.l0]
      refine RS.go ?_
      refine RT.br rfl (fun c18 => ?_) (fun c18 => ?_)
      · refine RT.br rfl (fun c2 => ?_) (fun c2 => RT.none)
        refine RT.br rfl (fun c3 => ?_) (fun c3 => RT.none)
        refine RT.br rfl (fun c17 => ?_) (fun c17 => ?_)
        · refine RT.goto rfl ?_
          refine RS.draw rfl ?_
          refine RD.req rfl (by first | exact Nat.zero_add _ | rfl | simp [szf, szOf]) ?_
          refine RD.req rfl (by first | exact Nat.zero_add _ | rfl | simp) ?_
          refine RD.br rfl (fun c4 => ?_) (fun c4 => RD.none)
          refine RD.br rfl (fun c5 => ?_) (fun c5 => RD.none)
          refine RD.req rfl ⟨by first | rfl | simp, elt_lt c4 (by first | exact c5 | simpa using c5)⟩ ?_
          refine RD.br rfl (fun c6 => ?_) (fun c6 => RD.none)
          refine RD.br rfl (fun c7 => ?_) (fun c7 => RD.none)
          refine RD.br rfl (fun c8 => ?_) (fun c8 => RD.none)
          refine RD.br rfl (fun c9 => ?_) (fun c9 => RD.none)
          refine RD.req rfl (by first | exact Nat.zero_add _ | rfl | simp) ?_
          refine RD.br rfl (fun c10 => ?_) (fun c10 => RD.none)
          refine RD.br rfl (fun c11 => ?_) (fun c11 => RD.none)
          refine RD.req rfl ⟨by first | rfl | simp, elt_lt c10 (by first | exact c11 | simpa using c11)⟩ ?_
          refine RD.fin key_closed.k0 key_closed.k1 rfl rfl (by decide +kernel) ?_
          refine RS.obj 10 (bufE eI (o10.set ((wrap64 ((o10.length : Int) - 1))).toNat (wrap64 ((rd o10 (wrap64 ((o10.length : Int) - 1))) + (wrap64 ((rd l0 x6) + (rd l0 (wrap64 (x6 + 1))))))))) ⟨_, rfl, LeO.setE c10 (by first | exact c11 | simpa using c11) (all1 rfl)⟩ ?_
          refine RS.go ?_
          refine RT.goto rfl ?_
          refine RS.weak [(0, sq eI l0), (1, .int .i64 a1), (5, .osl 10 eI.w 0 (o10.set ((wrap64 ((o10.length : Int) - 1))).toNat (wrap64 ((rd o10 (wrap64 ((o10.length : Int) - 1))) + (wrap64 ((rd l0 x6) + (rd l0 (wrap64 (x6 + 1)))))))).length (o10.set ((wrap64 ((o10.length : Int) - 1))).toNat (wrap64 ((rd o10 (wrap64 ((o10.length : Int) - 1))) + (wrap64 ((rd l0 x6) + (rd l0 (wrap64 (x6 + 1)))))))).length), (6, .int .i64 x6)] [(10, bufE eI (o10.set ((wrap64 ((o10.length : Int) - 1))).toNat (wrap64 ((rd o10 (wrap64 ((o10.length : Int) - 1))) + (wrap64 ((rd l0 x6) + (rd l0 (wrap64 (x6 + 1)))))))))] ⟨Le.eq (by first | rfl | simp), Le.eq (by first | rfl | simp), (by first | exact Le.oslN rfl (by first | rfl | simp) | exact Le.refl _ | exact Le.eq (by first | rfl | simp)), Le.eq (by first | rfl | simp), trivial⟩ ⟨⟨_, rfl, LeO.refl _⟩, trivial⟩ rfl (dom0 rfl) ?_
          exact ih.1 l0 a1 x6 (o10.set ((wrap64 ((o10.length : Int) - 1))).toNat (wrap64 ((rd o10 (wrap64 ((o10.length : Int) - 1))) + (wrap64 ((rd l0 x6) + (rd l0 (wrap64 (x6 + 1)))))))) 
        · refine RT.goto rfl ?_
          refine RS.draw rfl ?_
          refine RD.br rfl (fun c12 => ?_) (fun c12 => RD.none)
          refine RD.br rfl (fun c13 => ?_) (fun c13 => RD.none)
          refine RD.br rfl (fun c14 => ?_) (fun c14 => RD.none)
          refine RD.br rfl (fun c15 => ?_) (fun c15 => RD.none)
          refine RD.req rfl ⟨by first | rfl | simp, by first | exact Nat.le_refl _ | simp⟩ ?_
          refine RD.not rfl (by simp <;> omega) ?_
          refine RD.br rfl (fun c16 => ?_) (fun _ => RD.none)
          refine RD.fin key_closed.k2 key_closed.k3 rfl rfl (by decide +kernel) ?_
          refine RS.obj 10 (bufE eI (o10 ++ [(rd l0 x6), (rd l0 (wrap64 (x6 + 1)))])) ⟨_, rfl, LeO.app (l := o10) (m := [(rd l0 x6), (rd l0 (wrap64 (x6 + 1)))]) (cells_of rfl)⟩ ?_
          refine RS.slot 5 (.osl 10 eI.w 0 (o10 ++ [(rd l0 x6), (rd l0 (wrap64 (x6 + 1)))]).length (o10 ++ [(rd l0 x6), (rd l0 (wrap64 (x6 + 1)))]).length) (Le.oslN rfl (by simp)) ?_
          refine RS.slot 52 (.osl 10 eI.w 0 (o10 ++ [(rd l0 x6), (rd l0 (wrap64 (x6 + 1)))]).length (o10 ++ [(rd l0 x6), (rd l0 (wrap64 (x6 + 1)))]).length) (Le.oslN rfl (by simp)) ?_
          refine RS.go ?_
          refine RT.goto rfl ?_
          refine RS.weak [(0, sq eI l0), (1, .int .i64 a1), (5, .osl 10 eI.w 0 (o10 ++ [(rd l0 x6), (rd l0 (wrap64 (x6 + 1)))]).length (o10 ++ [(rd l0 x6), (rd l0 (wrap64 (x6 + 1)))]).length), (6, .int .i64 x6)] [(10, bufE eI (o10 ++ [(rd l0 x6), (rd l0 (wrap64 (x6 + 1)))]))] ⟨Le.eq (by first | rfl | simp), Le.eq (by first | rfl | simp), (by first | exact Le.oslN rfl (by first | rfl | simp) | exact Le.refl _ | exact Le.eq (by first | rfl | simp)), Le.eq (by first | rfl | simp), trivial⟩ ⟨⟨_, rfl, LeO.refl _⟩, trivial⟩ rfl (dom0 rfl) ?_
          exact ih.1 l0 a1 x6 (o10 ++ [(rd l0 x6), (rd l0 (wrap64 (x6 + 1)))]) 
      · refine RT.freeze 10 _ _ _ [(4, sq eI o10)] [] rfl rfl ⟨.inr ⟨_, rfl, by first | exact Nat.le_refl _ | simp, rfl⟩, trivial⟩ trivial rfl (dom0 rfl) ?_
        exact RT.done rfl rfl (Le.refl _) trivial rfl (dom0 rfl)
theorem key_closed.ok (k : Nat) (l0 : List Int) (a1 : Int) (r : (List Int)) (h : key_closed.f k l0 a1 = some r) : Ct Tryd.prog B 62 [sq eI l0, .int .i64 a1] (ofL []) (sq eI r) (ofL []) := by
  refine Ct.of (Y := (fam Tryd.f62 [4] [10] [] (fun r : (List Int) => sq eI r) (fun r => []))) Tryd.func62 rfl Tryd.call62 rfl rfl ?_ r h
  unfold key_closed.f
  refine RS.go ?_
  refine RT.brT rfl ?_
  refine RT.br rfl (fun c1 => ?_) (fun c1 => RT.none)
  refine RT.goto rfl ?_
  refine RS.obj 10 (bufE eI [(rd l0 0)]) ⟨_, rfl, LeO.lit (l := [(rd l0 0)]) (cells_of rfl)⟩ ?_
  refine RS.slot 10 (.osl 10 eI.w 0 [(rd l0 0)].length [(rd l0 0)].length) (Le.oslN rfl (by simp)) ?_
  refine RS.go ?_
  refine RT.goto rfl ?_
  refine RS.weak [(0, sq eI l0), (1, .int .i64 a1), (5, .osl 10 eI.w 0 [(rd l0 0)].length [(rd l0 0)].length), (6, .int .i64 1)] [(10, bufE eI [(rd l0 0)])] ⟨Le.eq (by first | rfl | simp), Le.eq (by first | rfl | simp), (by first | exact Le.oslN rfl (by first | rfl | simp) | exact Le.refl _ | exact Le.eq (by first | rfl | simp)), Le.eq (by first | rfl | simp), trivial⟩ ⟨⟨_, rfl, LeO.refl _⟩, trivial⟩ rfl (dom0 rfl) ?_
  exact (key_closed.loops k).2 l0 a1 1 [(rd l0 0)] 
/-! ### key_cleaned: function 61 -/
def key_cleaned.k0 : List DK := [⟨[87, 86], [48], [], [48]⟩, ⟨[71, 73], [48], [87], []⟩, ⟨[75, 85], [], [86], []⟩, ⟨[80, 84], [], [85], []⟩, ⟨[83], [], [84], []⟩, ⟨[81, 82], [], [83], []⟩, ⟨[6], [], [82], []⟩, ⟨[0], [], [81], []⟩, ⟨[79], [], [80], []⟩, ⟨[76, 78], [], [79], []⟩, ⟨[77], [], [78], []⟩, ⟨[6], [], [77], []⟩, ⟨[0], [], [76], []⟩, ⟨[74], [48], [75], []⟩, ⟨[71, 73], [48], [74], []⟩, ⟨[72], [], [73], []⟩, ⟨[7], [], [72], []⟩, ⟨[5], [], [71], []⟩]
def key_cleaned.k1 : List Nat := [0, 0, 2, 7, 15, 0, 0, 64, 224, 480, 0, 0, 3072, 7168, 16352, 32767, 65535, 131071]
def key_cleaned.k2 : List DK := [⟨[107], [], [5], []⟩, ⟨[96, 106], [107, 48], [107], [48]⟩, ⟨[100, 105], [106], [106], []⟩, ⟨[104], [], [105], []⟩, ⟨[101, 103], [], [104], []⟩, ⟨[102], [], [103], []⟩, ⟨[6], [], [102], []⟩, ⟨[0], [], [101], []⟩, ⟨[99], [], [100], []⟩, ⟨[97, 98], [], [99], []⟩, ⟨[6], [], [98], []⟩, ⟨[0], [], [97], []⟩, ⟨[5], [], [96], []⟩]
def key_cleaned.k3 : List Nat := [0, 0, 0, 6, 14, 0, 0, 64, 224, 480, 1022, 2047, 4095]
mutual
def key_cleaned.l2 : Nat → Int → List Int → Int → List Int → Option ((List Int))
  | 0, _, _, _, _ => Option.none
  | k + 1, a1, x0b, x6c, o48c => (if x6c < (x0b.length : Int) then (if 0 ≤ wrap64 ((o48c.length : Int) - 1) then (if wrap64 ((o48c.length : Int) - 1) < (o48c.length : Int) then (if (rd o48c (wrap64 ((o48c.length : Int) - 1))) < a1 then (if wrap64 ((o48c.length : Int) - 1) > 0 then (if 0 ≤ wrap64 ((o48c.length : Int) - 1) then (if wrap64 ((o48c.length : Int) - 1) ≤ (o48c.length : Int) then (if 0 ≤ wrap64 ((wrap64 ((o48c.length : Int) - 1)) - 1) then (if wrap64 ((wrap64 ((o48c.length : Int) - 1)) - 1) < ((o48c.take (wrap64 ((o48c.length : Int) - 1)).toNat).length : Int) then (if 0 ≤ wrap64 (x6c - 1) then (if wrap64 (x6c - 1) < (x0b.length : Int) then (if 0 ≤ x6c then (if x6c < (x0b.length : Int) then (if 0 ≤ wrap64 ((wrap64 ((o48c.length : Int) - 1)) - 1) then (if wrap64 ((wrap64 ((o48c.length : Int) - 1)) - 1) < ((o48c.take (wrap64 ((o48c.length : Int) - 1)).toNat).length : Int) then (if 0 ≤ wrap64 (x6c + 1) then (if wrap64 (x6c + 1) < (x0b.length : Int) then (if ((o48c.take (wrap64 ((o48c.length : Int) - 1)).toNat).set ((wrap64 ((wrap64 ((o48c.length : Int) - 1)) - 1))).toNat (wrap64 ((rd (o48c.take (wrap64 ((o48c.length : Int) - 1)).toNat) (wrap64 ((wrap64 ((o48c.length : Int) - 1)) - 1))) + (wrap64 ((rd x0b (wrap64 (x6c - 1))) + (rd x0b x6c)))))).length + [(rd x0b (wrap64 (x6c + 1)))].length ≤ 549755813888 then key_cleaned.l2 k a1 x0b (wrap64 (x6c + 2)) (((o48c.take (wrap64 ((o48c.length : Int) - 1)).toNat).set ((wrap64 ((wrap64 ((o48c.length : Int) - 1)) - 1))).toNat (wrap64 ((rd (o48c.take (wrap64 ((o48c.length : Int) - 1)).toNat) (wrap64 ((wrap64 ((o48c.length : Int) - 1)) - 1))) + (wrap64 ((rd x0b (wrap64 (x6c - 1))) + (rd x0b x6c)))))) ++ [(rd x0b (wrap64 (x6c + 1)))]) else Option.none) else Option.none) else Option.none) else Option.none) else Option.none) else Option.none) else Option.none) else Option.none) else Option.none) else Option.none) else Option.none) else Option.none) else Option.none) else (if 0 ≤ x6c then (if x6c < (x0b.length : Int) then (if 0 ≤ wrap64 (x6c + 1) then (if wrap64 (x6c + 1) < (x0b.length : Int) then (if o48c.length + [(rd x0b x6c), (rd x0b (wrap64 (x6c + 1)))].length ≤ 549755813888 then key_cleaned.l2 k a1 x0b (wrap64 (x6c + 2)) (o48c ++ [(rd x0b x6c), (rd x0b (wrap64 (x6c + 1)))]) else Option.none) else Option.none) else Option.none) else Option.none) else Option.none)) else (if 0 ≤ x6c then (if x6c < (x0b.length : Int) then (if 0 ≤ wrap64 (x6c + 1) then (if wrap64 (x6c + 1) < (x0b.length : Int) then (if o48c.length + [(rd x0b x6c), (rd x0b (wrap64 (x6c + 1)))].length ≤ 549755813888 then key_cleaned.l2 k a1 x0b (wrap64 (x6c + 2)) (o48c ++ [(rd x0b x6c), (rd x0b (wrap64 (x6c + 1)))]) else Option.none) else Option.none) else Option.none) else Option.none) else Option.none)) else Option.none) else Option.none) else Option.some o48c)
def key_cleaned.l1 : Nat → Int → List Int → Option ((List Int))
  | 0, _, _ => Option.none
  | k + 1, a1, x0b => (if (x0b.length : Int) > 0 then (if 0 ≤ wrap64 ((x0b.length : Int) - 1) then (if wrap64 ((x0b.length : Int) - 1) < (x0b.length : Int) then (if (rd x0b (wrap64 ((x0b.length : Int) - 1))) < a1 then (if 0 ≤ mx 0 (wrap64 ((x0b.length : Int) - 2)) then (if mx 0 (wrap64 ((x0b.length : Int) - 2)) ≤ (x0b.length : Int) then key_cleaned.l1 k a1 (x0b.take (mx 0 (wrap64 ((x0b.length : Int) - 2))).toNat) else Option.none) else Option.none) else (if (x0b.length : Int) = 0 then Option.some [] else (if 0 < (x0b.length : Int) then key_cleaned.l2 k a1 x0b 1 [(rd x0b 0)] else Option.none))) else Option.none) else Option.none) else (if (x0b.length : Int) = 0 then Option.some [] else (if 0 < (x0b.length : Int) then key_cleaned.l2 k a1 x0b 1 [(rd x0b 0)] else Option.none)))
def key_cleaned.l0 : Nat → Int → List Int → Option ((List Int))
  | 0, _, _ => Option.none
  | k + 1, a1, x0 => (if (x0.length : Int) > 0 then (if 0 < (x0.length : Int) then (if (rd x0 0) < a1 then (if 0 ≤ mn 2 (x0.length : Int) then (if mn 2 (x0.length : Int) ≤ (x0.length : Int) then key_cleaned.l0 k a1 (x0.drop (mn 2 (x0.length : Int)).toNat) else Option.none) else Option.none) else key_cleaned.l1 k a1 x0) else Option.none) else key_cleaned.l1 k a1 x0)
end
def key_cleaned.f (k : Nat) (l0 : List Int) (a1 : Int) : Option ((List Int)) := key_cleaned.l0 k a1 l0
theorem key_cleaned.loops : ∀ k, (∀ (a1 : Int) (x0b : List Int) (x6c : Int) (o48c : List Int) (t48c : List Int), RS (fam Tryd.f61 [1000061, 1000070] [48] [] (fun r : (List Int) => sq eI r) (fun r => [])) (Func.head Tryd.f61 2) ⟨ofT [(0, sq eI x0b), (1, .int .i64 a1), (5, .osl 48 eI.w 0 o48c.length (o48c ++ t48c).length), (6, .int .i64 x6c)], ofL [(48, bufE eI (o48c ++ t48c))]⟩ (key_cleaned.l2 k a1 x0b x6c o48c)) ∧ (∀ (a1 : Int) (x0b : List Int), RS (fam Tryd.f61 [1000061, 1000070] [48] [] (fun r : (List Int) => sq eI r) (fun r => [])) (Func.head Tryd.f61 1) ⟨ofT [(0, sq eI x0b), (1, .int .i64 a1)], ofL []⟩ (key_cleaned.l1 k a1 x0b)) ∧ (∀ (a1 : Int) (x0 : List Int), RS (fam Tryd.f61 [1000061, 1000070] [48] [] (fun r : (List Int) => sq eI r) (fun r => [])) (Func.head Tryd.f61 0) ⟨ofT [(0, sq eI x0), (1, .int .i64 a1)], ofL []⟩ (key_cleaned.l0 k a1 x0))
  | 0 => ⟨by intro _ _ _ _ _; simp only [key_cleaned.l2]; exact RS.none, by intro _ _; simp only [key_cleaned.l1]; exact RS.none, by intro _ _; simp only [key_cleaned.l0]; exact RS.none⟩
  | k + 1 => by
    have ih := key_cleaned.loops k
    refine ⟨?_, ?_, ?_⟩
    · intro a1 x0b x6c o48c t48c
      simp only [key_cleaned.l2]
      refine RS.go ?_
      refine RT.br rfl (fun c142 => ?_) (fun c142 => ?_)
      · refine RT.req rfl (by first | exact Nat.zero_add _ | rfl | simp [szf, szOf]) ?_
        refine RT.req rfl (by first | exact Nat.zero_add _ | rfl | simp) ?_
        refine RT.br rfl (fun c113 => ?_) (fun c113 => RT.none)
        refine RT.br rfl (fun c114 => ?_) (fun c114 => RT.none)
        refine RT.req rfl ⟨by first | rfl | simp, elt_lt c113 (le_room2 c114)⟩ ?_
        refine RT.goto rfl ?_
        refine RS.slot 61 (.int .i64 (rd o48c (wrap64 ((o48c.length : Int) - 1)))) (Le.eq (congrArg (AV.int .i64) (rdE_pre (E := eI) c113 c114))) ?_
        refine RS.go ?_
        refine RT.br rfl (fun c141 => ?_) (fun c141 => ?_)
        · refine RT.brT rfl ?_
          refine RT.brT rfl ?_
          refine RT.br rfl (fun c134 => ?_) (fun c134 => ?_)
          · refine RT.req rfl (by first | exact Nat.zero_add _ | rfl | simp) ?_
            refine RT.br rfl (fun c115 => ?_) (fun c115 => RT.none)
            refine RT.when (fun c116 => ?_)
            refine RT.sure rfl (decide_eq_true (by first | exact c116 | exact le_room c116)) ?_
            refine RT.goto rfl ?_
            refine RS.obj 48 (bufE eI ((o48c.take (wrap64 ((o48c.length : Int) - 1)).toNat) ++ ((o48c.drop (wrap64 ((o48c.length : Int) - 1)).toNat) ++ t48c))) ⟨_, rfl, LeO.cut⟩ ?_
            refine RS.slot 70 (.osl 48 eI.w 0 (o48c.take (wrap64 ((o48c.length : Int) - 1)).toNat).length ((o48c.take (wrap64 ((o48c.length : Int) - 1)).toNat) ++ ((o48c.drop (wrap64 ((o48c.length : Int) - 1)).toNat) ++ t48c)).length) (Le.osl2 rfl rfl (len_take c115 c116) len_cut) ?_
            refine RS.go ?_
            refine RT.goto rfl ?_
            refine RS.draw rfl ?_
            refine RD.req rfl (by first | exact Nat.zero_add _ | rfl | simp) ?_
            refine RD.br rfl (fun c117 => ?_) (fun c117 => RD.none)
            refine RD.br rfl (fun c118 => ?_) (fun c118 => RD.none)
            refine RD.req rfl ⟨by first | rfl | simp, elt_lt c117 (le_room2 c118)⟩ ?_
            refine RD.br rfl (fun c119 => ?_) (fun c119 => RD.none)
            refine RD.br rfl (fun c120 => ?_) (fun c120 => RD.none)
            refine RD.br rfl (fun c121 => ?_) (fun c121 => RD.none)
            refine RD.br rfl (fun c122 => ?_) (fun c122 => RD.none)
            refine RD.req rfl (by first | exact Nat.zero_add _ | rfl | simp) ?_
            refine RD.br rfl (fun c123 => ?_) (fun c123 => RD.none)
            refine RD.br rfl (fun c124 => ?_) (fun c124 => RD.none)
            refine RD.req rfl ⟨by first | rfl | simp, elt_lt c123 (le_room2 c124)⟩ ?_
            refine RD.fin key_cleaned.k0 key_cleaned.k1 rfl rfl (by decide +kernel) ?_
            refine RS.obj 48 (bufE eI (((o48c.take (wrap64 ((o48c.length : Int) - 1)).toNat).set ((wrap64 ((wrap64 ((o48c.length : Int) - 1)) - 1))).toNat (wrap64 ((rd (o48c.take (wrap64 ((o48c.length : Int) - 1)).toNat) (wrap64 ((wrap64 ((o48c.length : Int) - 1)) - 1))) + (wrap64 ((rd x0b (wrap64 (x6c - 1))) + (rd x0b x6c)))))) ++ ((o48c.drop (wrap64 ((o48c.length : Int) - 1)).toNat) ++ t48c))) ⟨_, rfl, LeO.setT c123 c124 (all1 (congrArg (fun z => (.int .i64 (wrap64 ((z) + (wrap64 ((rd x0b (wrap64 (x6c - 1))) + (rd x0b x6c))))) : AV)) (rdE_pre (E := eI) (l := (o48c.take (wrap64 ((o48c.length : Int) - 1)).toNat)) (t := ((o48c.drop (wrap64 ((o48c.length : Int) - 1)).toNat) ++ t48c)) c117 c118)))⟩ ?_
            refine RS.slot 5 (.osl 48 eI.w 0 ((o48c.take (wrap64 ((o48c.length : Int) - 1)).toNat).set ((wrap64 ((wrap64 ((o48c.length : Int) - 1)) - 1))).toNat (wrap64 ((rd (o48c.take (wrap64 ((o48c.length : Int) - 1)).toNat) (wrap64 ((wrap64 ((o48c.length : Int) - 1)) - 1))) + (wrap64 ((rd x0b (wrap64 (x6c - 1))) + (rd x0b x6c)))))).length (((o48c.take (wrap64 ((o48c.length : Int) - 1)).toNat).set ((wrap64 ((wrap64 ((o48c.length : Int) - 1)) - 1))).toNat (wrap64 ((rd (o48c.take (wrap64 ((o48c.length : Int) - 1)).toNat) (wrap64 ((wrap64 ((o48c.length : Int) - 1)) - 1))) + (wrap64 ((rd x0b (wrap64 (x6c - 1))) + (rd x0b x6c)))))) ++ ((o48c.drop (wrap64 ((o48c.length : Int) - 1)).toNat) ++ t48c)).length) (Le.osl2 rfl rfl (by simp) (by simp)) ?_
            refine RS.slot 70 (.osl 48 eI.w 0 ((o48c.take (wrap64 ((o48c.length : Int) - 1)).toNat).set ((wrap64 ((wrap64 ((o48c.length : Int) - 1)) - 1))).toNat (wrap64 ((rd (o48c.take (wrap64 ((o48c.length : Int) - 1)).toNat) (wrap64 ((wrap64 ((o48c.length : Int) - 1)) - 1))) + (wrap64 ((rd x0b (wrap64 (x6c - 1))) + (rd x0b x6c)))))).length (((o48c.take (wrap64 ((o48c.length : Int) - 1)).toNat).set ((wrap64 ((wrap64 ((o48c.length : Int) - 1)) - 1))).toNat (wrap64 ((rd (o48c.take (wrap64 ((o48c.length : Int) - 1)).toNat) (wrap64 ((wrap64 ((o48c.length : Int) - 1)) - 1))) + (wrap64 ((rd x0b (wrap64 (x6c - 1))) + (rd x0b x6c)))))) ++ ((o48c.drop (wrap64 ((o48c.length : Int) - 1)).toNat) ++ t48c)).length) (Le.osl2 rfl rfl (by simp) (by simp)) ?_
            refine RS.slot 71 (.osl 48 eI.w 0 ((o48c.take (wrap64 ((o48c.length : Int) - 1)).toNat).set ((wrap64 ((wrap64 ((o48c.length : Int) - 1)) - 1))).toNat (wrap64 ((rd (o48c.take (wrap64 ((o48c.length : Int) - 1)).toNat) (wrap64 ((wrap64 ((o48c.length : Int) - 1)) - 1))) + (wrap64 ((rd x0b (wrap64 (x6c - 1))) + (rd x0b x6c)))))).length (((o48c.take (wrap64 ((o48c.length : Int) - 1)).toNat).set ((wrap64 ((wrap64 ((o48c.length : Int) - 1)) - 1))).toNat (wrap64 ((rd (o48c.take (wrap64 ((o48c.length : Int) - 1)).toNat) (wrap64 ((wrap64 ((o48c.length : Int) - 1)) - 1))) + (wrap64 ((rd x0b (wrap64 (x6c - 1))) + (rd x0b x6c)))))) ++ ((o48c.drop (wrap64 ((o48c.length : Int) - 1)).toNat) ++ t48c)).length) (Le.osl2 rfl rfl (by simp) (by simp)) ?_
            refine RS.go ?_
            refine RT.br rfl (fun c125 => ?_) (fun c125 => RT.none)
            refine RT.br rfl (fun c126 => ?_) (fun c126 => RT.none)
            refine RT.goto rfl ?_
            refine RS.slot 94 (sq eI [(rd x0b (wrap64 (x6c + 1)))]) (Le.lit (E := eI) (l := [(rd x0b (wrap64 (x6c + 1)))]) (cells_of rfl)) ?_
            refine RS.go ?_
            refine RT.req rfl ⟨by first | rfl | simp, by first | rfl | simp⟩ ?_
            refine RT.app (E := eI) (l := (o48c.take (wrap64 ((o48c.length : Int) - 1)).toNat).set ((wrap64 ((wrap64 ((o48c.length : Int) - 1)) - 1))).toNat (wrap64 ((rd (o48c.take (wrap64 ((o48c.length : Int) - 1)).toNat) (wrap64 ((wrap64 ((o48c.length : Int) - 1)) - 1))) + (wrap64 ((rd x0b (wrap64 (x6c - 1))) + (rd x0b x6c)))))) (t := (o48c.drop (wrap64 ((o48c.length : Int) - 1)).toNat) ++ t48c) (m := [(rd x0b (wrap64 (x6c + 1)))]) rfl (fun _ _ _ _ => rfl) (fun t127 => ?_)
            refine RS.go ?_
            refine RT.goto rfl ?_
            refine RS.weak [(0, sq eI x0b), (1, .int .i64 a1), (5, .osl 48 eI.w 0 (((o48c.take (wrap64 ((o48c.length : Int) - 1)).toNat).set ((wrap64 ((wrap64 ((o48c.length : Int) - 1)) - 1))).toNat (wrap64 ((rd (o48c.take (wrap64 ((o48c.length : Int) - 1)).toNat) (wrap64 ((wrap64 ((o48c.length : Int) - 1)) - 1))) + (wrap64 ((rd x0b (wrap64 (x6c - 1))) + (rd x0b x6c)))))) ++ [(rd x0b (wrap64 (x6c + 1)))]).length ((((o48c.take (wrap64 ((o48c.length : Int) - 1)).toNat).set ((wrap64 ((wrap64 ((o48c.length : Int) - 1)) - 1))).toNat (wrap64 ((rd (o48c.take (wrap64 ((o48c.length : Int) - 1)).toNat) (wrap64 ((wrap64 ((o48c.length : Int) - 1)) - 1))) + (wrap64 ((rd x0b (wrap64 (x6c - 1))) + (rd x0b x6c)))))) ++ [(rd x0b (wrap64 (x6c + 1)))]) ++ t127).length), (6, .int .i64 (wrap64 (x6c + 2)))] [(48, bufE eI ((((o48c.take (wrap64 ((o48c.length : Int) - 1)).toNat).set ((wrap64 ((wrap64 ((o48c.length : Int) - 1)) - 1))).toNat (wrap64 ((rd (o48c.take (wrap64 ((o48c.length : Int) - 1)).toNat) (wrap64 ((wrap64 ((o48c.length : Int) - 1)) - 1))) + (wrap64 ((rd x0b (wrap64 (x6c - 1))) + (rd x0b x6c)))))) ++ [(rd x0b (wrap64 (x6c + 1)))]) ++ t127))] ⟨Le.eq (by first | rfl | simp), Le.eq (by first | rfl | simp), Le.osl2 rfl rfl (by first | rfl | simp) (by first | rfl | simp), Le.eq (by first | rfl | simp), trivial⟩ ⟨⟨_, rfl, by first | exact LeO.refl _ | exact LeO.room0⟩, trivial⟩ rfl (dom0 rfl) ?_
            exact ih.1 a1 x0b (wrap64 (x6c + 2)) (((o48c.take (wrap64 ((o48c.length : Int) - 1)).toNat).set ((wrap64 ((wrap64 ((o48c.length : Int) - 1)) - 1))).toNat (wrap64 ((rd (o48c.take (wrap64 ((o48c.length : Int) - 1)).toNat) (wrap64 ((wrap64 ((o48c.length : Int) - 1)) - 1))) + (wrap64 ((rd x0b (wrap64 (x6c - 1))) + (rd x0b x6c)))))) ++ [(rd x0b (wrap64 (x6c + 1)))]) t127
          · refine RT.goto rfl ?_
            refine RS.draw rfl ?_
            refine RD.br rfl (fun c128 => ?_) (fun c128 => RD.none)
            refine RD.br rfl (fun c129 => ?_) (fun c129 => RD.none)
            refine RD.br rfl (fun c130 => ?_) (fun c130 => RD.none)
            refine RD.br rfl (fun c131 => ?_) (fun c131 => RD.none)
            refine RD.iff (fun c132 => ?_)
            refine RD.req rfl ⟨by first | rfl | simp, by first | rfl | simp⟩ ?_
            refine RD.ifG rfl (fun c133 => ?_) (fun _ => ?_)
            · refine RD.fin key_cleaned.k2 key_cleaned.k3 rfl rfl (by decide +kernel) ?_
              refine RS.obj 48 (bufE eI ((o48c ++ [(rd x0b x6c), (rd x0b (wrap64 (x6c + 1)))]) ++ (t48c.drop [(rd x0b x6c), (rd x0b (wrap64 (x6c + 1)))].length))) ⟨_, rfl, LeO.appIn (l := o48c) (t := t48c) (m := [(rd x0b x6c), (rd x0b (wrap64 (x6c + 1)))]) (of_decide_eq_true c133) (cells_of rfl)⟩ ?_
              refine RS.slot 5 (.osl 48 eI.w 0 (o48c ++ [(rd x0b x6c), (rd x0b (wrap64 (x6c + 1)))]).length ((o48c ++ [(rd x0b x6c), (rd x0b (wrap64 (x6c + 1)))]) ++ (t48c.drop [(rd x0b x6c), (rd x0b (wrap64 (x6c + 1)))].length)).length) (Le.osl2 rfl rfl (by simp) (len_appIn (l := o48c) (t := t48c) (m := [(rd x0b x6c), (rd x0b (wrap64 (x6c + 1)))]) (of_decide_eq_true c133))) ?_
              refine RS.slot 107 (.osl 48 eI.w 0 (o48c ++ [(rd x0b x6c), (rd x0b (wrap64 (x6c + 1)))]).length ((o48c ++ [(rd x0b x6c), (rd x0b (wrap64 (x6c + 1)))]) ++ (t48c.drop [(rd x0b x6c), (rd x0b (wrap64 (x6c + 1)))].length)).length) (Le.osl2 rfl rfl (by simp) (len_appIn (l := o48c) (t := t48c) (m := [(rd x0b x6c), (rd x0b (wrap64 (x6c + 1)))]) (of_decide_eq_true c133))) ?_
              refine RS.go ?_
              refine RT.goto rfl ?_
              refine RS.weak [(0, sq eI x0b), (1, .int .i64 a1), (5, .osl 48 eI.w 0 (o48c ++ [(rd x0b x6c), (rd x0b (wrap64 (x6c + 1)))]).length ((o48c ++ [(rd x0b x6c), (rd x0b (wrap64 (x6c + 1)))]) ++ (t48c.drop [(rd x0b x6c), (rd x0b (wrap64 (x6c + 1)))].length)).length), (6, .int .i64 (wrap64 (x6c + 2)))] [(48, bufE eI ((o48c ++ [(rd x0b x6c), (rd x0b (wrap64 (x6c + 1)))]) ++ (t48c.drop [(rd x0b x6c), (rd x0b (wrap64 (x6c + 1)))].length)))] ⟨Le.eq (by first | rfl | simp), Le.eq (by first | rfl | simp), Le.osl2 rfl rfl (by first | rfl | simp) (by first | rfl | simp), Le.eq (by first | rfl | simp), trivial⟩ ⟨⟨_, rfl, by first | exact LeO.refl _ | exact LeO.room0⟩, trivial⟩ rfl (dom0 rfl) ?_
              exact ih.1 a1 x0b (wrap64 (x6c + 2)) (o48c ++ [(rd x0b x6c), (rd x0b (wrap64 (x6c + 1)))]) (t48c.drop [(rd x0b x6c), (rd x0b (wrap64 (x6c + 1)))].length)
            · refine RD.sure rfl (by simpa using c132) ?_
              refine RD.fin key_cleaned.k2 key_cleaned.k3 rfl rfl (by decide +kernel) ?_
              refine RS.obj 48 (bufE eI (o48c ++ [(rd x0b x6c), (rd x0b (wrap64 (x6c + 1)))])) ⟨_, rfl, LeO.appR (l := o48c) (t := t48c) (m := [(rd x0b x6c), (rd x0b (wrap64 (x6c + 1)))]) (cells_of rfl)⟩ ?_
              refine RS.slot 5 (.osl 48 eI.w 0 (o48c ++ [(rd x0b x6c), (rd x0b (wrap64 (x6c + 1)))]).length (o48c ++ [(rd x0b x6c), (rd x0b (wrap64 (x6c + 1)))]).length) (Le.oslN rfl (by simp)) ?_
              refine RS.slot 107 (.osl 48 eI.w 0 (o48c ++ [(rd x0b x6c), (rd x0b (wrap64 (x6c + 1)))]).length (o48c ++ [(rd x0b x6c), (rd x0b (wrap64 (x6c + 1)))]).length) (Le.oslN rfl (by simp)) ?_
              refine RS.go ?_
              refine RT.goto rfl ?_
              refine RS.weak [(0, sq eI x0b), (1, .int .i64 a1), (5, .osl 48 eI.w 0 (o48c ++ [(rd x0b x6c), (rd x0b (wrap64 (x6c + 1)))]).length ((o48c ++ [(rd x0b x6c), (rd x0b (wrap64 (x6c + 1)))]) ++ ([] : List Int)).length), (6, .int .i64 (wrap64 (x6c + 2)))] [(48, bufE eI ((o48c ++ [(rd x0b x6c), (rd x0b (wrap64 (x6c + 1)))]) ++ ([] : List Int)))] ⟨Le.eq (by first | rfl | simp), Le.eq (by first | rfl | simp), Le.osl2 rfl rfl (by first | rfl | simp) (by first | rfl | simp), Le.eq (by first | rfl | simp), trivial⟩ ⟨⟨_, rfl, by first | exact LeO.refl _ | exact LeO.room0⟩, trivial⟩ rfl (dom0 rfl) ?_
              exact ih.1 a1 x0b (wrap64 (x6c + 2)) (o48c ++ [(rd x0b x6c), (rd x0b (wrap64 (x6c + 1)))]) ([] : List Int)
        · refine RT.brF rfl ?_
          refine RT.brF rfl ?_
          refine RT.brF rfl ?_
          refine RT.goto rfl ?_
          refine RS.draw rfl ?_
          refine RD.br rfl (fun c135 => ?_) (fun c135 => RD.none)
          refine RD.br rfl (fun c136 => ?_) (fun c136 => RD.none)
          refine RD.br rfl (fun c137 => ?_) (fun c137 => RD.none)
          refine RD.br rfl (fun c138 => ?_) (fun c138 => RD.none)
          refine RD.iff (fun c139 => ?_)
          refine RD.req rfl ⟨by first | rfl | simp, by first | rfl | simp⟩ ?_
          refine RD.ifG rfl (fun c140 => ?_) (fun _ => ?_)
          · refine RD.fin key_cleaned.k2 key_cleaned.k3 rfl rfl (by decide +kernel) ?_
            refine RS.obj 48 (bufE eI ((o48c ++ [(rd x0b x6c), (rd x0b (wrap64 (x6c + 1)))]) ++ (t48c.drop [(rd x0b x6c), (rd x0b (wrap64 (x6c + 1)))].length))) ⟨_, rfl, LeO.appIn (l := o48c) (t := t48c) (m := [(rd x0b x6c), (rd x0b (wrap64 (x6c + 1)))]) (of_decide_eq_true c140) (cells_of rfl)⟩ ?_
            refine RS.slot 5 (.osl 48 eI.w 0 (o48c ++ [(rd x0b x6c), (rd x0b (wrap64 (x6c + 1)))]).length ((o48c ++ [(rd x0b x6c), (rd x0b (wrap64 (x6c + 1)))]) ++ (t48c.drop [(rd x0b x6c), (rd x0b (wrap64 (x6c + 1)))].length)).length) (Le.osl2 rfl rfl (by simp) (len_appIn (l := o48c) (t := t48c) (m := [(rd x0b x6c), (rd x0b (wrap64 (x6c + 1)))]) (of_decide_eq_true c140))) ?_
            refine RS.slot 107 (.osl 48 eI.w 0 (o48c ++ [(rd x0b x6c), (rd x0b (wrap64 (x6c + 1)))]).length ((o48c ++ [(rd x0b x6c), (rd x0b (wrap64 (x6c + 1)))]) ++ (t48c.drop [(rd x0b x6c), (rd x0b (wrap64 (x6c + 1)))].length)).length) (Le.osl2 rfl rfl (by simp) (len_appIn (l := o48c) (t := t48c) (m := [(rd x0b x6c), (rd x0b (wrap64 (x6c + 1)))]) (of_decide_eq_true c140))) ?_
            refine RS.go ?_
            refine RT.goto rfl ?_
            refine RS.weak [(0, sq eI x0b), (1, .int .i64 a1), (5, .osl 48 eI.w 0 (o48c ++ [(rd x0b x6c), (rd x0b (wrap64 (x6c + 1)))]).length ((o48c ++ [(rd x0b x6c), (rd x0b (wrap64 (x6c + 1)))]) ++ (t48c.drop [(rd x0b x6c), (rd x0b (wrap64 (x6c + 1)))].length)).length), (6, .int .i64 (wrap64 (x6c + 2)))] [(48, bufE eI ((o48c ++ [(rd x0b x6c), (rd x0b (wrap64 (x6c + 1)))]) ++ (t48c.drop [(rd x0b x6c), (rd x0b (wrap64 (x6c + 1)))].length)))] ⟨Le.eq (by first | rfl | simp), Le.eq (by first | rfl | simp), Le.osl2 rfl rfl (by first | rfl | simp) (by first | rfl | simp), Le.eq (by first | rfl | simp), trivial⟩ ⟨⟨_, rfl, by first | exact LeO.refl _ | exact LeO.room0⟩, trivial⟩ rfl (dom0 rfl) ?_
            exact ih.1 a1 x0b (wrap64 (x6c + 2)) (o48c ++ [(rd x0b x6c), (rd x0b (wrap64 (x6c + 1)))]) (t48c.drop [(rd x0b x6c), (rd x0b (wrap64 (x6c + 1)))].length)
          · refine RD.sure rfl (by simpa using c139) ?_
            refine RD.fin key_cleaned.k2 key_cleaned.k3 rfl rfl (by decide +kernel) ?_
            refine RS.obj 48 (bufE eI (o48c ++ [(rd x0b x6c), (rd x0b (wrap64 (x6c + 1)))])) ⟨_, rfl, LeO.appR (l := o48c) (t := t48c) (m := [(rd x0b x6c), (rd x0b (wrap64 (x6c + 1)))]) (cells_of rfl)⟩ ?_
            refine RS.slot 5 (.osl 48 eI.w 0 (o48c ++ [(rd x0b x6c), (rd x0b (wrap64 (x6c + 1)))]).length (o48c ++ [(rd x0b x6c), (rd x0b (wrap64 (x6c + 1)))]).length) (Le.oslN rfl (by simp)) ?_
            refine RS.slot 107 (.osl 48 eI.w 0 (o48c ++ [(rd x0b x6c), (rd x0b (wrap64 (x6c + 1)))]).length (o48c ++ [(rd x0b x6c), (rd x0b (wrap64 (x6c + 1)))]).length) (Le.oslN rfl (by simp)) ?_
            refine RS.go ?_
            refine RT.goto rfl ?_
            refine RS.weak [(0, sq eI x0b), (1, .int .i64 a1), (5, .osl 48 eI.w 0 (o48c ++ [(rd x0b x6c), (rd x0b (wrap64 (x6c + 1)))]).length ((o48c ++ [(rd x0b x6c), (rd x0b (wrap64 (x6c + 1)))]) ++ ([] : List Int)).length), (6, .int .i64 (wrap64 (x6c + 2)))] [(48, bufE eI ((o48c ++ [(rd x0b x6c), (rd x0b (wrap64 (x6c + 1)))]) ++ ([] : List Int)))] ⟨Le.eq (by first | rfl | simp), Le.eq (by first | rfl | simp), Le.osl2 rfl rfl (by first | rfl | simp) (by first | rfl | simp), Le.eq (by first | rfl | simp), trivial⟩ ⟨⟨_, rfl, by first | exact LeO.refl _ | exact LeO.room0⟩, trivial⟩ rfl (dom0 rfl) ?_
            exact ih.1 a1 x0b (wrap64 (x6c + 2)) (o48c ++ [(rd x0b x6c), (rd x0b (wrap64 (x6c + 1)))]) ([] : List Int)
      · refine RT.freeze 48 _ _ _ [(4, .sl o48c.length eI.w (rep eI (o48c ++ t48c)))] [] rfl rfl ⟨.inr ⟨_, rfl, by first | exact Nat.le_refl _ | simp, rfl⟩, trivial⟩ trivial rfl (dom0 rfl) ?_
        exact RT.done rfl rfl Le.pre trivial rfl (dom0 rfl)
    · intro a1 x0b
      simp only [key_cleaned.l1]
      refine RS.go ?_
      refine RT.br rfl (fun c144 => ?_) (fun c144 => ?_)
      · refine RT.brT rfl ?_
        refine RT.brT rfl ?_
        refine RT.brT rfl ?_
        refine RT.brT rfl ?_
        refine RT.br rfl (fun c75 => ?_) (fun c75 => RT.none)
        refine RT.br rfl (fun c76 => ?_) (fun c76 => RT.none)
        refine RT.brT rfl ?_
        refine RT.brT rfl ?_
        refine RT.brT rfl ?_
        refine RT.brT rfl ?_
        refine RT.br rfl (fun c111 => ?_) (fun c111 => ?_)
        · refine RT.br rfl (fun c77 => ?_) (fun c77 => RT.none)
          refine RT.br rfl (fun c78 => ?_) (fun c78 => RT.none)
          refine RT.goto rfl ?_
          refine RS.slot 41 (sq eI (x0b.take (mx 0 (wrap64 ((x0b.length : Int) - 2))).toNat)) (Le.head (by first | omega | assumption) (by first | omega | assumption)) ?_
          refine RS.go ?_
          refine RT.goto rfl ?_
          refine RS.weak [(0, sq eI (x0b.take (mx 0 (wrap64 ((x0b.length : Int) - 2))).toNat)), (1, .int .i64 a1)] [] ⟨Le.eq (by first | rfl | simp), Le.eq (by first | rfl | simp), trivial⟩ trivial rfl (dom0 rfl) ?_
          exact ih.2.1 a1 (x0b.take (mx 0 (wrap64 ((x0b.length : Int) - 2))).toNat) 
        · refine RT.br rfl (fun c110 => ?_) (fun c110 => ?_)
          · exact RT.done rfl rfl (Le.nil _ _) trivial rfl (dom0 rfl)
          · refine RT.brT rfl ?_
            refine RT.br rfl (fun c79 => ?_) (fun c79 => RT.none)
            refine RT.goto rfl ?_
            refine RS.obj 48 (bufE eI [(rd x0b 0)]) ⟨_, rfl, LeO.lit (l := [(rd x0b 0)]) (cells_of rfl)⟩ ?_
            refine RS.slot 48 (.osl 48 eI.w 0 [(rd x0b 0)].length [(rd x0b 0)].length) (Le.oslN rfl (by simp)) ?_
            refine RS.go ?_
            refine RT.goto rfl ?_
            refine RS.weak [(0, sq eI x0b), (1, .int .i64 a1), (5, .osl 48 eI.w 0 [(rd x0b 0)].length ([(rd x0b 0)] ++ ([] : List Int)).length), (6, .int .i64 1)] [(48, bufE eI ([(rd x0b 0)] ++ ([] : List Int)))] ⟨Le.eq (by first | rfl | simp), Le.eq (by first | rfl | simp), Le.osl2 rfl rfl (by first | rfl | simp) (by first | rfl | simp), Le.eq (by first | rfl | simp), trivial⟩ ⟨⟨_, rfl, by first | exact LeO.refl _ | exact LeO.room0⟩, trivial⟩ rfl (dom0 rfl) ?_
            exact ih.1 a1 x0b 1 [(rd x0b 0)] ([] : List Int)
      · refine RT.brF rfl ?_
        refine RT.brF rfl ?_
        refine RT.brF rfl ?_
        refine RT.brF rfl ?_
        refine RT.brF rfl ?_
        refine RT.brF rfl ?_
        refine RT.brF rfl ?_
        refine RT.brF rfl ?_
        refine RT.brF rfl ?_
        refine RT.br rfl (fun c143 => ?_) (fun c143 => ?_)
        · exact RT.done rfl rfl (Le.nil _ _) trivial rfl (dom0 rfl)
        · refine RT.brT rfl ?_
          refine RT.br rfl (fun c112 => ?_) (fun c112 => RT.none)
          refine RT.goto rfl ?_
          refine RS.obj 48 (bufE eI [(rd x0b 0)]) ⟨_, rfl, LeO.lit (l := [(rd x0b 0)]) (cells_of rfl)⟩ ?_
          refine RS.slot 48 (.osl 48 eI.w 0 [(rd x0b 0)].length [(rd x0b 0)].length) (Le.oslN rfl (by simp)) ?_
          refine RS.go ?_
          refine RT.goto rfl ?_
          refine RS.weak [(0, sq eI x0b), (1, .int .i64 a1), (5, .osl 48 eI.w 0 [(rd x0b 0)].length ([(rd x0b 0)] ++ ([] : List Int)).length), (6, .int .i64 1)] [(48, bufE eI ([(rd x0b 0)] ++ ([] : List Int)))] ⟨Le.eq (by first | rfl | simp), Le.eq (by first | rfl | simp), Le.osl2 rfl rfl (by first | rfl | simp) (by first | rfl | simp), Le.eq (by first | rfl | simp), trivial⟩ ⟨⟨_, rfl, by first | exact LeO.refl _ | exact LeO.room0⟩, trivial⟩ rfl (dom0 rfl) ?_
          exact ih.1 a1 x0b 1 [(rd x0b 0)] ([] : List Int)
    · intro a1 x0
      simp only [key_cleaned.l0]
      refine RS.go ?_
      refine RT.br rfl (fun c145 => ?_) (fun c145 => ?_)
      · refine RT.brT rfl ?_
        refine RT.brT rfl ?_
        refine RT.br rfl (fun c1 => ?_) (fun c1 => RT.none)
        refine RT.brT rfl ?_
        refine RT.brT rfl ?_
        refine RT.brT rfl ?_
        refine RT.brT rfl ?_
        refine RT.br rfl (fun c74 => ?_) (fun c74 => ?_)
        · refine RT.br rfl (fun c2 => ?_) (fun c2 => RT.none)
          refine RT.br rfl (fun c3 => ?_) (fun c3 => RT.none)
          refine RT.goto rfl ?_
          refine RS.slot 22 (sq eI (x0.drop (mn 2 (x0.length : Int)).toNat)) (Le.tail (by first | omega | assumption) (by first | omega | assumption)) ?_
          refine RS.go ?_
          refine RT.goto rfl ?_
          refine RS.weak [(0, sq eI (x0.drop (mn 2 (x0.length : Int)).toNat)), (1, .int .i64 a1)] [] ⟨Le.eq (by first | rfl | simp), Le.eq (by first | rfl | simp), trivial⟩ trivial rfl (dom0 rfl) ?_
          exact ih.2.2 a1 (x0.drop (mn 2 (x0.length : Int)).toNat) 
        · refine RT.goto rfl ?_
          refine RS.weak [(0, sq eI x0), (1, .int .i64 a1)] [] ⟨Le.eq (by first | rfl | simp), Le.eq (by first | rfl | simp), trivial⟩ trivial rfl (dom0 rfl) ?_
          exact ih.2.1 a1 x0 
      · refine RT.brF rfl ?_
        refine RT.brF rfl ?_
        refine RT.brF rfl ?_
        refine RT.brF rfl ?_
        refine RT.brF rfl ?_
        refine RT.brF rfl ?_
        refine RT.goto rfl ?_
        refine RS.weak [(0, sq eI x0), (1, .int .i64 a1)] [] ⟨Le.eq (by first | rfl | simp), Le.eq (by first | rfl | simp), trivial⟩ trivial rfl (dom0 rfl) ?_
        exact ih.2.1 a1 x0 
theorem key_cleaned.ok (k : Nat) (l0 : List Int) (a1 : Int) (r : (List Int)) (h : key_cleaned.f k l0 a1 = some r) : Ct Tryd.prog B 61 [sq eI l0, .int .i64 a1] (ofL []) (sq eI r) (ofL []) := by
  refine Ct.of (Y := (fam Tryd.f61 [1000061, 1000070] [48] [] (fun r : (List Int) => sq eI r) (fun r => []))) Tryd.func61 rfl Tryd.call61 rfl rfl ?_ r h
  unfold key_cleaned.f
  refine RS.go ?_
  refine RT.goto rfl ?_
  refine RS.weak [(0, sq eI l0), (1, .int .i64 a1)] [] ⟨Le.eq (by first | rfl | simp), Le.eq (by first | rfl | simp), trivial⟩ trivial rfl (dom0 rfl) ?_
  exact (key_cleaned.loops k).2.2 a1 l0 
/-! ### key_Clean_1: function 63 -/
def key_Clean_1.f (a0 : Int) : Option (Bool) := Option.some (decide (a0 > 100000))
theorem key_Clean_1.ok (a0 : Int) (r : Bool) (h : key_Clean_1.f a0 = some r) : Ct Tryd.prog B 63 [.int .i64 a0] (ofL []) (.bool r) (ofL []) := by
  refine Ct.of (Y := (fam Tryd.f63 [] [] [] (fun r : Bool => .bool r) (fun r => []))) Tryd.func63 rfl Tryd.call63 rfl rfl ?_ r h
  unfold key_Clean_1.f
  refine RS.go ?_
  exact RT.done rfl rfl (Le.refl _) trivial rfl (dom0 rfl)
/-! ### slices_IndexFunc_int_int_of_key_Clean_1: function 97 -/
def slices_IndexFunc_int_int_of_key_Clean_1.l0 : Nat → List Int → Int → Option (Int)
  | 0, _, _ => Option.none
  | k + 1, l0, x8 => (if x8 < (l0.length : Int) then (if 0 ≤ x8 then (if x8 < (l0.length : Int) then ((key_Clean_1.f (rd l0 x8)).bind fun r3 => (if r3 = true then Option.some x8 else slices_IndexFunc_int_int_of_key_Clean_1.l0 k l0 (wrap64 (x8 + 1)))) else Option.none) else Option.none) else Option.some (-1))
def slices_IndexFunc_int_int_of_key_Clean_1.f (k : Nat) (l0 : List Int) : Option (Int) := slices_IndexFunc_int_int_of_key_Clean_1.l0 k l0 0
theorem slices_IndexFunc_int_int_of_key_Clean_1.loops : ∀ k, (∀ (l0 : List Int) (x8 : Int), RS (fam Tryd.f97 [] [] [] (fun r : Int => .int .i64 r) (fun r => [])) (Func.head Tryd.f97 0) ⟨ofT [(0, sq eI l0), (1, .fn 63 []), (7, .int .i64 (l0.length : Int)), (8, .int .i64 x8)], ofL []⟩ (slices_IndexFunc_int_int_of_key_Clean_1.l0 k l0 x8))
  | 0 => by intro _ _; simp only [slices_IndexFunc_int_int_of_key_Clean_1.l0]; exact RS.none
  | k + 1 => by
    have ih := slices_IndexFunc_int_int_of_key_Clean_1.loops k
    · intro l0 x8
      simp only [slices_IndexFunc_int_int_of_key_Clean_1.l0]
      refine RS.go ?_
      refine RT.br rfl (fun c5 => ?_) (fun c5 => ?_)
      · refine RT.br rfl (fun c1 => ?_) (fun c1 => RT.none)
        refine RT.br rfl (fun c2 => ?_) (fun c2 => RT.none)
        refine RT.call0 rfl (fun _ h => key_Clean_1.ok (rd l0 x8) _ h) (LeL.eq rfl) (fun _ => rfl) (fun r3 => ?_)
        refine RS.go ?_
        refine RT.brB rfl (fun c4 => ?_) (fun c4 => ?_)
        · exact RT.done rfl rfl (Le.refl _) trivial rfl (dom0 rfl)
        · refine RT.goto rfl ?_
          refine RS.weak [(0, sq eI l0), (1, .fn 63 []), (7, .int .i64 (l0.length : Int)), (8, .int .i64 (wrap64 (x8 + 1)))] [] ⟨Le.eq (by first | rfl | simp), Le.eq (by first | rfl | simp), Le.eq (by first | rfl | simp), Le.eq (by first | rfl | simp), trivial⟩ trivial rfl (dom0 rfl) ?_
          exact ih l0 (wrap64 (x8 + 1)) 
      · exact RT.done rfl rfl (Le.refl _) trivial rfl (dom0 rfl)
theorem slices_IndexFunc_int_int_of_key_Clean_1.ok (k : Nat) (l0 : List Int) (r : Int) (h : slices_IndexFunc_int_int_of_key_Clean_1.f k l0 = some r) : Ct Tryd.prog B 97 [sq eI l0, .fn 63 []] (ofL []) (.int .i64 r) (ofL []) := by
  refine Ct.of (Y := (fam Tryd.f97 [] [] [] (fun r : Int => .int .i64 r) (fun r => []))) Tryd.func97 rfl Tryd.call97 rfl rfl ?_ r h
  unfold slices_IndexFunc_int_int_of_key_Clean_1.f
  refine RS.go ?_
  refine RT.goto rfl ?_
  refine RS.weak [(0, sq eI l0), (1, .fn 63 []), (7, .int .i64 (l0.length : Int)), (8, .int .i64 0)] [] ⟨Le.eq (by first | rfl | simp), Le.eq (by first | rfl | simp), Le.eq (by first | rfl | simp), Le.eq (by first | rfl | simp), trivial⟩ trivial rfl (dom0 rfl) ?_
  exact slices_IndexFunc_int_int_of_key_Clean_1.loops k l0 0 
/-! ### slices_ContainsFunc_int_int_of_key_Clean_1: function 53 -/
def slices_ContainsFunc_int_int_of_key_Clean_1.f (k : Nat) (l0 : List Int) : Option (Bool) := ((slices_IndexFunc_int_int_of_key_Clean_1.f k l0).bind fun r1 => Option.some (decide (r1 ≥ 0)))
theorem slices_ContainsFunc_int_int_of_key_Clean_1.ok (k : Nat) (l0 : List Int) (r : Bool) (h : slices_ContainsFunc_int_int_of_key_Clean_1.f k l0 = some r) : Ct Tryd.prog B 53 [sq eI l0, .fn 63 []] (ofL []) (.bool r) (ofL []) := by
  refine Ct.of (Y := (fam Tryd.f53 [] [] [] (fun r : Bool => .bool r) (fun r => []))) Tryd.func53 rfl Tryd.call53 rfl rfl ?_ r h
  unfold slices_ContainsFunc_int_int_of_key_Clean_1.f
  refine RS.go ?_
  refine RT.call0 rfl (fun _ h => slices_IndexFunc_int_int_of_key_Clean_1.ok k l0 _ h) (LeL.eq rfl) (fun _ => rfl) (fun r1 => ?_)
  refine RS.go ?_
  exact RT.done rfl rfl (Le.refl _) trivial rfl (dom0 rfl)
/-! ### key_Clean: function 16 -/
def key_Clean.f (k : Nat) (l0 : List Int) (a1 : Int) : Option ((List Int) × Int) := ((key_CheckMarks.f k l0).bind fun r1 => (if r1 = 0 then ((kit_Outside.f a1 1 100000).bind fun r2 => (if r2 = true then Option.some ([], 1) else ((key_closed.f k l0 a1).bind fun r3 => ((key_cleaned.f k r3 a1).bind fun r4 => (if (r4.length : Int) = 0 then Option.some ([], 8) else ((slices_ContainsFunc_int_int_of_key_Clean_1.f k r4).bind fun r5 => (if r5 = true then Option.some ([], 2) else Option.some (r4, 0)))))))) else Option.some ([], r1)))
theorem key_Clean.ok (k : Nat) (l0 : List Int) (a1 : Int) (r : (List Int) × Int) (h : key_Clean.f k l0 a1 = some r) : Ct Tryd.prog B 16 [sq eI l0, .int .i64 a1] (ofL []) (.tup [sq eI r.1, .int .i64 r.2]) (ofL []) := by
  refine Ct.of (Y := (fam Tryd.f16 [] [] [] (fun r : (List Int) × Int => .tup [sq eI r.1, .int .i64 r.2]) (fun r => []))) Tryd.func16 rfl Tryd.call16 rfl rfl ?_ r h
  unfold key_Clean.f
  refine RS.go ?_
  refine RT.call0 rfl (fun _ h => key_CheckMarks.ok k l0 _ h) (LeL.eq rfl) (fun _ => rfl) (fun r1 => ?_)
  refine RS.go ?_
  refine RT.brN rfl (fun c9 => ?_) (fun c9 => ?_)
  · refine RT.call0 rfl (fun _ h => kit_Outside.ok a1 1 100000 _ h) (LeL.eq rfl) (fun _ => rfl) (fun r2 => ?_)
    refine RS.go ?_
    refine RT.brB rfl (fun c8 => ?_) (fun c8 => ?_)
    · exact RT.done rfl rfl (Le.tup (LeL.cons (Le.nil _ _) (LeL.cons (Le.refl _) (LeL.nil)))) trivial rfl (dom0 rfl)
    · refine RT.call0 rfl (fun _ h => key_closed.ok k l0 a1 _ h) (LeL.eq rfl) (fun _ => rfl) (fun r3 => ?_)
      refine RS.go ?_
      refine RT.call0 rfl (fun _ h => key_cleaned.ok k r3 a1 _ h) (LeL.eq rfl) (fun _ => rfl) (fun r4 => ?_)
      refine RS.go ?_
      refine RT.br rfl (fun c7 => ?_) (fun c7 => ?_)
      · exact RT.done rfl rfl (Le.tup (LeL.cons (Le.nil _ _) (LeL.cons (Le.refl _) (LeL.nil)))) trivial rfl (dom0 rfl)
      · refine RT.call0 rfl (fun _ h => slices_ContainsFunc_int_int_of_key_Clean_1.ok k r4 _ h) (LeL.eq rfl) (fun _ => rfl) (fun r5 => ?_)
        refine RS.go ?_
        refine RT.brB rfl (fun c6 => ?_) (fun c6 => ?_)
        · exact RT.done rfl rfl (Le.tup (LeL.cons (Le.nil _ _) (LeL.cons (Le.refl _) (LeL.nil)))) trivial rfl (dom0 rfl)
        · exact RT.done rfl rfl (Le.tup (LeL.cons (Le.refl _) (LeL.cons (Le.refl _) (LeL.nil)))) trivial rfl (dom0 rfl)
  · exact RT.done rfl rfl (Le.tup (LeL.cons (Le.nil _ _) (LeL.cons (Le.refl _) (LeL.nil)))) trivial rfl (dom0 rfl)
/-! ### cmp_Or_api_Errno: function 17 -/
def cmp_Or_api_Errno.l0 : Nat → List Int → Int → Option (Int)
  | 0, _, _ => Option.none
  | k + 1, l0, x8 => (if x8 < (l0.length : Int) then (if 0 ≤ x8 then (if x8 < (l0.length : Int) then (if (rd l0 x8) = 0 then cmp_Or_api_Errno.l0 k l0 (wrap64 (x8 + 1)) else Option.some (rd l0 x8)) else Option.none) else Option.none) else Option.some 0)
def cmp_Or_api_Errno.f (k : Nat) (l0 : List Int) : Option (Int) := cmp_Or_api_Errno.l0 k l0 0
theorem cmp_Or_api_Errno.loops : ∀ k, (∀ (l0 : List Int) (x8 : Int), RS (fam Tryd.f17 [] [] [] (fun r : Int => .int .i64 r) (fun r => [])) (Func.head Tryd.f17 0) ⟨ofT [(3, .int .i64 0), (6, sq eI l0), (7, .int .i64 (l0.length : Int)), (8, .int .i64 x8)], ofL []⟩ (cmp_Or_api_Errno.l0 k l0 x8))
  | 0 => by intro _ _; simp only [cmp_Or_api_Errno.l0]; exact RS.none
  | k + 1 => by
    have ih := cmp_Or_api_Errno.loops k
    · intro l0 x8
      simp only [cmp_Or_api_Errno.l0]
      refine RS.go ?_
      refine RT.br rfl (fun c4 => ?_) (fun c4 => ?_)
      · refine RT.br rfl (fun c1 => ?_) (fun c1 => RT.none)
        refine RT.br rfl (fun c2 => ?_) (fun c2 => RT.none)
        refine RT.brN rfl (fun c3 => ?_) (fun c3 => ?_)
        · refine RT.goto rfl ?_
          refine RS.weak [(3, .int .i64 0), (6, sq eI l0), (7, .int .i64 (l0.length : Int)), (8, .int .i64 (wrap64 (x8 + 1)))] [] ⟨Le.eq (by first | rfl | simp), Le.eq (by first | rfl | simp), Le.eq (by first | rfl | simp), Le.eq (by first | rfl | simp), trivial⟩ trivial rfl (dom0 rfl) ?_
          exact ih l0 (wrap64 (x8 + 1)) 
        · exact RT.done rfl rfl (Le.refl _) trivial rfl (dom0 rfl)
      · exact RT.done rfl rfl (Le.refl _) trivial rfl (dom0 rfl)
theorem cmp_Or_api_Errno.ok (k : Nat) (l0 : List Int) (r : Int) (h : cmp_Or_api_Errno.f k l0 = some r) : Ct Tryd.prog B 17 [sq eI l0] (ofL []) (.int .i64 r) (ofL []) := by
  refine Ct.of (Y := (fam Tryd.f17 [] [] [] (fun r : Int => .int .i64 r) (fun r => []))) Tryd.func17 rfl Tryd.call17 rfl rfl ?_ r h
  unfold cmp_Or_api_Errno.f
  refine RS.go ?_
  refine RT.goto rfl ?_
  refine RS.weak [(3, .int .i64 0), (6, sq eI l0), (7, .int .i64 (l0.length : Int)), (8, .int .i64 0)] [] ⟨Le.eq (by first | rfl | simp), Le.eq (by first | rfl | simp), Le.eq (by first | rfl | simp), Le.eq (by first | rfl | simp), trivial⟩ trivial rfl (dom0 rfl) ?_
  exact cmp_Or_api_Errno.loops k l0 0 
/-! ### pileref1_nearest: function 65 -/
def pileref1_nearest.k0 : List DK := [⟨[40], [], [11], []⟩, ⟨[31, 39], [], [40], []⟩, ⟨[34, 38], [], [39], []⟩, ⟨[37], [], [38], []⟩, ⟨[35, 36], [], [37], []⟩, ⟨[1], [], [36], []⟩, ⟨[0], [], [35], []⟩, ⟨[32, 33], [], [34], []⟩, ⟨[2], [], [33], []⟩, ⟨[10], [], [32], []⟩, ⟨[27, 30], [], [31], []⟩, ⟨[28, 29], [], [30], []⟩, ⟨[2], [], [29], []⟩, ⟨[10], [], [28], []⟩, ⟨[26], [], [27], []⟩, ⟨[24, 25], [], [26], []⟩, ⟨[1], [], [25], []⟩, ⟨[0], [], [24], []⟩]
def pileref1_nearest.k1 : List Nat := [0, 0, 3, 7, 0, 0, 48, 127, 0, 0, 768, 0, 0, 6144, 14336, 32512, 65535, 131071]
mutual
def pileref1_nearest.j10 : Nat → List Int → Int → Int → List Int → Int → Int → Int → Option (Int × Int)
  | 0, _, _, _, _, _, _, _ => Option.none
  | k + 1, l0, a1, a2, x8j4, x19, x6j10, x7j10 => pileref1_nearest.l0 k l0 a1 a2 x8j4 x6j10 x7j10 (wrap64 (x19 + 1))
def pileref1_nearest.l0 : Nat → List Int → Int → Int → List Int → Int → Int → Int → Option (Int × Int)
  | 0, _, _, _, _, _, _, _ => Option.none
  | k + 1, l0, a1, a2, x8j4, x6, x7, x19 => (if x19 < (x8j4.length : Int) then (if 0 ≤ x19 then (if x19 < (x8j4.length : Int) then (if 0 ≤ a1 then (if a1 < (l0.length : Int) then (if 0 ≤ a1 then (if a1 < (l0.length : Int) then (if x19 = 0 then pileref1_nearest.j10 k l0 a1 a2 x8j4 x19 (rd x8j4 x19) (mx (wrap64 ((rd l0 a1) - (wrap64 ((rd x8j4 x19) * a2)))) (wrap64 ((wrap64 ((rd x8j4 x19) * a2)) - (rd l0 a1)))) else (if mx (wrap64 ((rd l0 a1) - (wrap64 ((rd x8j4 x19) * a2)))) (wrap64 ((wrap64 ((rd x8j4 x19) * a2)) - (rd l0 a1))) < x7 then pileref1_nearest.j10 k l0 a1 a2 x8j4 x19 (rd x8j4 x19) (mx (wrap64 ((rd l0 a1) - (wrap64 ((rd x8j4 x19) * a2)))) (wrap64 ((wrap64 ((rd x8j4 x19) * a2)) - (rd l0 a1)))) else pileref1_nearest.j10 k l0 a1 a2 x8j4 x19 x6 x7)) else Option.none) else Option.none) else Option.none) else Option.none) else Option.none) else Option.none) else Option.some (x6, x7))
def pileref1_nearest.j4 : Nat → List Int → Int → Int → List Int → Option (Int × Int)
  | 0, _, _, _, _ => Option.none
  | k + 1, l0, a1, a2, x8j4 => pileref1_nearest.l0 k l0 a1 a2 x8j4 0 0 0
end
def pileref1_nearest.f (k : Nat) (l0 : List Int) (a1 : Int) (a2 : Int) : Option (Int × Int) := (if Int.tmod a1 2 = 1 then pileref1_nearest.j4 k l0 a1 a2 [1, 3, 7] else pileref1_nearest.j4 k l0 a1 a2 [1, 3])
theorem pileref1_nearest.loops : ∀ k, (∀ (l0 : List Int) (a1 : Int) (a2 : Int) (x8j4 : List Int) (x19 : Int) (x6j10 : Int) (x7j10 : Int), RS (fam Tryd.f65 [4, 10] [] [] (fun r : Int × Int => .tup [.int .i64 r.1, .int .i64 r.2]) (fun r => [])) (Func.reg Tryd.f65 10) ⟨ofT [(0, sq eI l0), (1, .int .i64 a1), (2, .int .i64 a2), (6, .int .i64 x6j10), (7, .int .i64 x7j10), (17, sq eI x8j4), (18, .int .i64 (x8j4.length : Int)), (19, .int .i64 x19)], ofL []⟩ (pileref1_nearest.j10 k l0 a1 a2 x8j4 x19 x6j10 x7j10)) ∧ (∀ (l0 : List Int) (a1 : Int) (a2 : Int) (x8j4 : List Int) (x6 : Int) (x7 : Int) (x19 : Int), RS (fam Tryd.f65 [4, 10] [] [] (fun r : Int × Int => .tup [.int .i64 r.1, .int .i64 r.2]) (fun r => [])) (Func.head Tryd.f65 0) ⟨ofT [(0, sq eI l0), (1, .int .i64 a1), (2, .int .i64 a2), (6, .int .i64 x6), (7, .int .i64 x7), (17, sq eI x8j4), (18, .int .i64 (x8j4.length : Int)), (19, .int .i64 x19)], ofL []⟩ (pileref1_nearest.l0 k l0 a1 a2 x8j4 x6 x7 x19)) ∧ (∀ (l0 : List Int) (a1 : Int) (a2 : Int) (x8j4 : List Int), RS (fam Tryd.f65 [4, 10] [] [] (fun r : Int × Int => .tup [.int .i64 r.1, .int .i64 r.2]) (fun r => [])) (Func.reg Tryd.f65 4) ⟨ofT [(0, sq eI l0), (1, .int .i64 a1), (2, .int .i64 a2), (6, .int .i64 0), (7, .int .i64 0), (8, sq eI x8j4)], ofL []⟩ (pileref1_nearest.j4 k l0 a1 a2 x8j4))
  | 0 => ⟨by intro _ _ _ _ _ _ _; simp only [pileref1_nearest.j10]; exact RS.none, by intro _ _ _ _ _ _ _; simp only [pileref1_nearest.l0]; exact RS.none, by intro _ _ _ _; simp only [pileref1_nearest.j4]; exact RS.none⟩
  | k + 1 => by
    have ih := pileref1_nearest.loops k
    refine ⟨?_, ?_, ?_⟩
    · intro l0 a1 a2 x8j4 x19 x6j10 x7j10
      simp only [pileref1_nearest.j10]
      refine RS.region ?_
      refine RS.go ?_
      refine RT.goto rfl ?_
      refine RS.weak [(0, sq eI l0), (1, .int .i64 a1), (2, .int .i64 a2), (6, .int .i64 x6j10), (7, .int .i64 x7j10), (17, sq eI x8j4), (18, .int .i64 (x8j4.length : Int)), (19, .int .i64 (wrap64 (x19 + 1)))] [] ⟨Le.eq (by first | rfl | simp), Le.eq (by first | rfl | simp), Le.eq (by first | rfl | simp), Le.eq (by first | rfl | simp), Le.eq (by first | rfl | simp), Le.eq (by first | rfl | simp), Le.eq (by first | rfl | simp), Le.eq (by first | rfl | simp), trivial⟩ trivial rfl (dom0 rfl) ?_
      exact ih.2.1 l0 a1 a2 x8j4 x6j10 x7j10 (wrap64 (x19 + 1)) 
    · intro l0 a1 a2 x8j4 x6 x7 x19
      simp only [pileref1_nearest.l0]
      refine RS.go ?_
      refine RT.br rfl (fun c9 => ?_) (fun c9 => ?_)
      · refine RT.br rfl (fun c1 => ?_) (fun c1 => RT.none)
        refine RT.br rfl (fun c2 => ?_) (fun c2 => RT.none)
        refine RT.goto rfl ?_
        refine RS.draw rfl ?_
        refine RD.br rfl (fun c3 => ?_) (fun c3 => RD.none)
        refine RD.br rfl (fun c4 => ?_) (fun c4 => RD.none)
        refine RD.br rfl (fun c5 => ?_) (fun c5 => RD.none)
        refine RD.br rfl (fun c6 => ?_) (fun c6 => RD.none)
        refine RD.fin pileref1_nearest.k0 pileref1_nearest.k1 rfl rfl (by decide +kernel) ?_
        refine RS.go ?_
        refine RT.br rfl (fun c8 => ?_) (fun c8 => ?_)
        · refine RT.brT rfl ?_
          refine RT.brT rfl ?_
          refine RT.brT rfl ?_
          refine RT.brT rfl ?_
          refine RT.goto rfl ?_
          refine RS.weak [(0, sq eI l0), (1, .int .i64 a1), (2, .int .i64 a2), (6, .int .i64 (rd x8j4 x19)), (7, .int .i64 (mx (wrap64 ((rd l0 a1) - (wrap64 ((rd x8j4 x19) * a2)))) (wrap64 ((wrap64 ((rd x8j4 x19) * a2)) - (rd l0 a1))))), (17, sq eI x8j4), (18, .int .i64 (x8j4.length : Int)), (19, .int .i64 x19)] [] ⟨Le.eq (by first | rfl | simp), Le.eq (by first | rfl | simp), Le.eq (by first | rfl | simp), Le.eq (by first | rfl | simp), Le.eq (by first | rfl | simp), Le.eq (by first | rfl | simp), Le.eq (by first | rfl | simp), Le.eq (by first | rfl | simp), trivial⟩ trivial rfl (dom0 rfl) ?_
          exact ih.1 l0 a1 a2 x8j4 x19 (rd x8j4 x19) (mx (wrap64 ((rd l0 a1) - (wrap64 ((rd x8j4 x19) * a2)))) (wrap64 ((wrap64 ((rd x8j4 x19) * a2)) - (rd l0 a1)))) 
        · refine RT.brF rfl ?_
          refine RT.brF rfl ?_
          refine RT.brF rfl ?_
          refine RT.br rfl (fun c7 => ?_) (fun c7 => ?_)
          · refine RT.goto rfl ?_
            refine RS.weak [(0, sq eI l0), (1, .int .i64 a1), (2, .int .i64 a2), (6, .int .i64 (rd x8j4 x19)), (7, .int .i64 (mx (wrap64 ((rd l0 a1) - (wrap64 ((rd x8j4 x19) * a2)))) (wrap64 ((wrap64 ((rd x8j4 x19) * a2)) - (rd l0 a1))))), (17, sq eI x8j4), (18, .int .i64 (x8j4.length : Int)), (19, .int .i64 x19)] [] ⟨Le.eq (by first | rfl | simp), Le.eq (by first | rfl | simp), Le.eq (by first | rfl | simp), Le.eq (by first | rfl | simp), Le.eq (by first | rfl | simp), Le.eq (by first | rfl | simp), Le.eq (by first | rfl | simp), Le.eq (by first | rfl | simp), trivial⟩ trivial rfl (dom0 rfl) ?_
            exact ih.1 l0 a1 a2 x8j4 x19 (rd x8j4 x19) (mx (wrap64 ((rd l0 a1) - (wrap64 ((rd x8j4 x19) * a2)))) (wrap64 ((wrap64 ((rd x8j4 x19) * a2)) - (rd l0 a1)))) 
          · refine RT.goto rfl ?_
            refine RS.weak [(0, sq eI l0), (1, .int .i64 a1), (2, .int .i64 a2), (6, .int .i64 x6), (7, .int .i64 x7), (17, sq eI x8j4), (18, .int .i64 (x8j4.length : Int)), (19, .int .i64 x19)] [] ⟨Le.eq (by first | rfl | simp), Le.eq (by first | rfl | simp), Le.eq (by first | rfl | simp), Le.eq (by first | rfl | simp), Le.eq (by first | rfl | simp), Le.eq (by first | rfl | simp), Le.eq (by first | rfl | simp), Le.eq (by first | rfl | simp), trivial⟩ trivial rfl (dom0 rfl) ?_
            exact ih.1 l0 a1 a2 x8j4 x19 x6 x7 
      · exact RT.done rfl rfl (Le.tup (LeL.cons (Le.refl _) (LeL.cons (Le.refl _) (LeL.nil)))) trivial rfl (dom0 rfl)
    · intro l0 a1 a2 x8j4
      simp only [pileref1_nearest.j4]
      refine RS.region ?_
      refine RS.go ?_
      refine RT.goto rfl ?_
      refine RS.weak [(0, sq eI l0), (1, .int .i64 a1), (2, .int .i64 a2), (6, .int .i64 0), (7, .int .i64 0), (17, sq eI x8j4), (18, .int .i64 (x8j4.length : Int)), (19, .int .i64 0)] [] ⟨Le.eq (by first | rfl | simp), Le.eq (by first | rfl | simp), Le.eq (by first | rfl | simp), Le.eq (by first | rfl | simp), Le.eq (by first | rfl | simp), Le.eq (by first | rfl | simp), Le.eq (by first | rfl | simp), Le.eq (by first | rfl | simp), trivial⟩ trivial rfl (dom0 rfl) ?_
      exact ih.2.1 l0 a1 a2 x8j4 0 0 0 
theorem pileref1_nearest.ok (k : Nat) (l0 : List Int) (a1 : Int) (a2 : Int) (r : Int × Int) (h : pileref1_nearest.f k l0 a1 a2 = some r) : Ct Tryd.prog B 65 [sq eI l0, .int .i64 a1, .int .i64 a2] (ofL []) (.tup [.int .i64 r.1, .int .i64 r.2]) (ofL []) := by
  refine Ct.of (Y := (fam Tryd.f65 [4, 10] [] [] (fun r : Int × Int => .tup [.int .i64 r.1, .int .i64 r.2]) (fun r => []))) Tryd.func65 rfl Tryd.call65 rfl rfl ?_ r h
  unfold pileref1_nearest.f
  refine RS.go ?_
  refine RT.goto rfl ?_
  refine RS.slot 12 (sq eI [1, 3]) (Le.lit (E := eI) (l := [1, 3]) (cells_of rfl)) ?_
  refine RS.go ?_
  refine RT.brF rfl ?_
  refine RT.br rfl (fun c10 => ?_) (fun c10 => ?_)
  · refine RT.goto rfl ?_
    refine RS.slot 16 (sq eI [1, 3, 7]) (Le.lit (E := eI) (l := [1, 3, 7]) (cells_of rfl)) ?_
    refine RS.go ?_
    refine RT.goto rfl ?_
    refine RS.weak [(0, sq eI l0), (1, .int .i64 a1), (2, .int .i64 a2), (6, .int .i64 0), (7, .int .i64 0), (8, sq eI [1, 3, 7])] [] ⟨Le.eq (by first | rfl | simp), Le.eq (by first | rfl | simp), Le.eq (by first | rfl | simp), Le.eq (by first | rfl | simp), Le.eq (by first | rfl | simp), Le.eq (by first | rfl | simp), trivial⟩ trivial rfl (dom0 rfl) ?_
    exact (pileref1_nearest.loops k).2.2 l0 a1 a2 [1, 3, 7] 
  · refine RT.goto rfl ?_
    refine RS.weak [(0, sq eI l0), (1, .int .i64 a1), (2, .int .i64 a2), (6, .int .i64 0), (7, .int .i64 0), (8, sq eI [1, 3])] [] ⟨Le.eq (by first | rfl | simp), Le.eq (by first | rfl | simp), Le.eq (by first | rfl | simp), Le.eq (by first | rfl | simp), Le.eq (by first | rfl | simp), Le.eq (by first | rfl | simp), trivial⟩ trivial rfl (dom0 rfl) ?_
    exact (pileref1_nearest.loops k).2.2 l0 a1 a2 [1, 3] 
/-! ### pileref1_signOf: function 69 -/
def pileref1_signOf.l0 : Nat → ByteArray → List (ByteArray × ByteArray) → Int → Int → Option (ByteArray)
  | 0, _, _, _, _ => Option.none
  | k + 1, a0, x5, x6, x7 => (if x7 < x6 then (if 0 ≤ x7 then (if x7 < (x5.length : Int) then (if (rdE e_SS x5 x7).2 = a0 then Option.some ((rdE e_SS x5 x7).1) else pileref1_signOf.l0 k a0 x5 x6 (wrap64 (x7 + 1))) else Option.none) else Option.none) else Option.some (⟨#[42]⟩ : ByteArray))
def pileref1_signOf.f (k : Nat) (a0 : ByteArray) : Option (ByteArray) := ((pileref1_CodesOf.f k ).bind fun r1 => pileref1_signOf.l0 k a0 r1 (r1.length : Int) 0)
theorem pileref1_signOf.loops : ∀ k, (∀ (a0 : ByteArray) (x5 : List (ByteArray × ByteArray)) (x6 : Int) (x7 : Int), RS (fam Tryd.f69 [] [] [] (fun r : ByteArray => .str r) (fun r => [])) (Func.head Tryd.f69 0) ⟨ofT [(0, .str a0), (5, sq e_SS x5), (6, .int .i64 x6), (7, .int .i64 x7)], ofL []⟩ (pileref1_signOf.l0 k a0 x5 x6 x7))
  | 0 => by intro _ _ _ _; simp only [pileref1_signOf.l0]; exact RS.none
  | k + 1 => by
    have ih := pileref1_signOf.loops k
    · intro a0 x5 x6 x7
      simp only [pileref1_signOf.l0]
      refine RS.go ?_
      refine RT.br rfl (fun c5 => ?_) (fun c5 => ?_)
      · refine RT.br rfl (fun c2 => ?_) (fun c2 => RT.none)
        refine RT.br rfl (fun c3 => ?_) (fun c3 => RT.none)
        refine RT.br rfl (fun c4 => ?_) (fun c4 => ?_)
        · exact RT.done rfl rfl (Le.refl _) trivial rfl (dom0 rfl)
        · refine RT.goto rfl ?_
          refine RS.weak [(0, .str a0), (5, sq e_SS x5), (6, .int .i64 x6), (7, .int .i64 (wrap64 (x7 + 1)))] [] ⟨Le.eq (by first | rfl | simp), Le.eq (by first | rfl | simp), Le.eq (by first | rfl | simp), Le.eq (by first | rfl | simp), trivial⟩ trivial rfl (dom0 rfl) ?_
          exact ih a0 x5 x6 (wrap64 (x7 + 1)) 
      · exact RT.done rfl rfl (Le.refl _) trivial rfl (dom0 rfl)
theorem pileref1_signOf.ok (k : Nat) (a0 : ByteArray) (r : ByteArray) (h : pileref1_signOf.f k a0 = some r) : Ct Tryd.prog B 69 [.str a0] (ofL []) (.str r) (ofL []) := by
  refine Ct.of (Y := (fam Tryd.f69 [] [] [] (fun r : ByteArray => .str r) (fun r => []))) Tryd.func69 rfl Tryd.call69 rfl rfl ?_ r h
  unfold pileref1_signOf.f
  refine RS.go ?_
  refine RT.call0 rfl (fun _ h => pileref1_CodesOf.ok k  _ h) (LeL.eq rfl) (fun _ => rfl) (fun r1 => ?_)
  refine RS.go ?_
  refine RT.goto rfl ?_
  refine RS.weak [(0, .str a0), (5, sq e_SS r1), (6, .int .i64 (r1.length : Int)), (7, .int .i64 0)] [] ⟨Le.eq (by first | rfl | simp), Le.eq (by first | rfl | simp), Le.eq (by first | rfl | simp), Le.eq (by first | rfl | simp), trivial⟩ trivial rfl (dom0 rfl) ?_
  exact pileref1_signOf.loops k a0 r1 (r1.length : Int) 0 
/-! ### pileref1_WithUnit: function 19 -/
mutual
def pileref1_WithUnit.j16 : Nat → List Int → Int → Int → Int → Nat → ByteArray → Option (ByteArray × Int)
  | 0, _, _, _, _, _, _ => Option.none
  | k + 1, l0, a1, x18, x7j16, v1000006j16, o1000006j16 => pileref1_WithUnit.l0 k l0 a1 x7j16 (wrap64 (x18 + 1)) v1000006j16 o1000006j16
def pileref1_WithUnit.l2 : Nat → Int → List ByteArray → Int → Int → ByteArray → List ByteArray → Int → Int → Option (ByteArray × Int)
  | 0, _, _, _, _, _, _, _, _ => Option.none
  | k + 1, x7, x55b, x56b, x57b, x11c, x67c, x68c, x69c => (if x69c < x68c then (if 0 ≤ x69c then (if x69c < (x67c.length : Int) then ((pileref1_signOf.f k (rdE eS x67c x69c)).bind fun r25 => (if x11c.size + r25.size ≤ 9223372036854775807 then pileref1_WithUnit.l2 k x7 x55b x56b x57b (x11c ++ r25) x67c x68c (wrap64 (x69c + 1)) else Option.none)) else Option.none) else Option.none) else pileref1_WithUnit.l1 k x7 x11c x55b x56b (wrap64 (x57b + 1)))
def pileref1_WithUnit.j23 : Nat → Int → List ByteArray → Int → Int → ByteArray → Option (ByteArray × Int)
  | 0, _, _, _, _, _ => Option.none
  | k + 1, x7, x55b, x56b, x57b, x11j23 => ((strings_Split.f (rdE eS x55b x57b) (⟨#[32]⟩ : ByteArray)).bind fun r22 => pileref1_WithUnit.l2 k x7 x55b x56b x57b x11j23 r22 (r22.length : Int) 0)
def pileref1_WithUnit.l1 : Nat → Int → ByteArray → List ByteArray → Int → Int → Option (ByteArray × Int)
  | 0, _, _, _, _, _ => Option.none
  | k + 1, x7, x11b, x55b, x56b, x57b => (if x57b < x56b then (if 0 ≤ x57b then (if x57b < (x55b.length : Int) then (if x57b > 0 then (if x11b.size + (⟨#[32]⟩ : ByteArray).size ≤ 9223372036854775807 then pileref1_WithUnit.j23 k x7 x55b x56b x57b (x11b ++ (⟨#[32]⟩ : ByteArray)) else Option.none) else pileref1_WithUnit.j23 k x7 x55b x56b x57b x11b) else Option.none) else Option.none) else Option.some (x11b, x7))
def pileref1_WithUnit.l0 : Nat → List Int → Int → Int → Int → Nat → ByteArray → Option (ByteArray × Int)
  | 0, _, _, _, _, _, _ => Option.none
  | k + 1, l0, a1, x7, x18, v1000006, o1000006 => (if x18 < (l0.length : Int) then ((pileref1_nearest.f k l0 x18 a1).bind fun r1 => (if Int.tmod x18 2 = 0 then (if r1.1 = 1 then ((strings_Builder_WriteString.f v1000006 o1000006 (⟨#[46]⟩ : ByteArray)).bind fun r2 => pileref1_WithUnit.j16 k l0 a1 x18 (wrap64 (x7 + r1.2)) r2.1 r2.2) else (if Int.tmod x18 2 = 0 then ((strings_Builder_WriteString.f v1000006 o1000006 (⟨#[45]⟩ : ByteArray)).bind fun r3 => pileref1_WithUnit.j16 k l0 a1 x18 (wrap64 (x7 + r1.2)) r3.1 r3.2) else (if r1.1 = 3 then ((strings_Builder_WriteString.f v1000006 o1000006 (⟨#[32]⟩ : ByteArray)).bind fun r4 => pileref1_WithUnit.j16 k l0 a1 x18 (wrap64 (x7 + r1.2)) r4.1 r4.2) else (if r1.1 = 7 then ((strings_Builder_WriteString.f v1000006 o1000006 (⟨#[32, 47, 32]⟩ : ByteArray)).bind fun r5 => pileref1_WithUnit.j16 k l0 a1 x18 (wrap64 (x7 + r1.2)) r5.1 r5.2) else pileref1_WithUnit.j16 k l0 a1 x18 (wrap64 (x7 + r1.2)) v1000006 o1000006)))) else (if Int.tmod x18 2 = 0 then ((strings_Builder_WriteString.f v1000006 o1000006 (⟨#[45]⟩ : ByteArray)).bind fun r10 => pileref1_WithUnit.j16 k l0 a1 x18 (wrap64 (x7 + r1.2)) r10.1 r10.2) else (if r1.1 = 3 then ((strings_Builder_WriteString.f v1000006 o1000006 (⟨#[32]⟩ : ByteArray)).bind fun r11 => pileref1_WithUnit.j16 k l0 a1 x18 (wrap64 (x7 + r1.2)) r11.1 r11.2) else (if r1.1 = 7 then ((strings_Builder_WriteString.f v1000006 o1000006 (⟨#[32, 47, 32]⟩ : ByteArray)).bind fun r12 => pileref1_WithUnit.j16 k l0 a1 x18 (wrap64 (x7 + r1.2)) r12.1 r12.2) else pileref1_WithUnit.j16 k l0 a1 x18 (wrap64 (x7 + r1.2)) v1000006 o1000006))))) else ((strings_Builder_String.f v1000006 o1000006).bind fun r17 => ((strings_Split.f r17.2 (⟨#[32, 47, 32]⟩ : ByteArray)).bind fun r18 => pileref1_WithUnit.l1 k x7 (⟨#[]⟩ : ByteArray) r18 (r18.length : Int) 0)))
end
def pileref1_WithUnit.f (k : Nat) (l0 : List Int) (a1 : Int) : Option (ByteArray × Int) := pileref1_WithUnit.l0 k l0 a1 0 0 0 ByteArray.empty
theorem pileref1_WithUnit.loops : ∀ k, (∀ (l0 : List Int) (a1 : Int) (x18 : Int) (x7j16 : Int) (v1000006j16 : Nat) (o1000006j16 : ByteArray), RS (fam Tryd.f19 [16, 23] [] [] (fun r : ByteArray × Int => .tup [.str r.1, .int .i64 r.2]) (fun r => [])) (Func.reg Tryd.f19 16) ⟨ofT [(0, sq eI l0), (1, .int .i64 a1), (6, .ref 6 0 0 0 2), (7, .int .i64 x7j16), (17, .int .i64 (l0.length : Int)), (18, .int .i64 x18)], ofL [(6, .bx 89 1000006 v1000006j16 o1000006j16.size), (1000006, .bb 5 v1000006j16 o1000006j16)]⟩ (pileref1_WithUnit.j16 k l0 a1 x18 x7j16 v1000006j16 o1000006j16)) ∧ (∀ (x7 : Int) (x55b : List ByteArray) (x56b : Int) (x57b : Int) (x11c : ByteArray) (x67c : List ByteArray) (x68c : Int) (x69c : Int), RS (fam Tryd.f19 [16, 23] [] [] (fun r : ByteArray × Int => .tup [.str r.1, .int .i64 r.2]) (fun r => [])) (Func.head Tryd.f19 2) ⟨ofT [(7, .int .i64 x7), (11, .str x11c), (55, sq eS x55b), (56, .int .i64 x56b), (57, .int .i64 x57b), (67, sq eS x67c), (68, .int .i64 x68c), (69, .int .i64 x69c)], ofL []⟩ (pileref1_WithUnit.l2 k x7 x55b x56b x57b x11c x67c x68c x69c)) ∧ (∀ (x7 : Int) (x55b : List ByteArray) (x56b : Int) (x57b : Int) (x11j23 : ByteArray), RS (fam Tryd.f19 [16, 23] [] [] (fun r : ByteArray × Int => .tup [.str r.1, .int .i64 r.2]) (fun r => [])) (Func.reg Tryd.f19 23) ⟨ofT [(7, .int .i64 x7), (11, .str x11j23), (13, .str (rdE eS x55b x57b)), (55, sq eS x55b), (56, .int .i64 x56b), (57, .int .i64 x57b)], ofL []⟩ (pileref1_WithUnit.j23 k x7 x55b x56b x57b x11j23)) ∧ (∀ (x7 : Int) (x11b : ByteArray) (x55b : List ByteArray) (x56b : Int) (x57b : Int), RS (fam Tryd.f19 [16, 23] [] [] (fun r : ByteArray × Int => .tup [.str r.1, .int .i64 r.2]) (fun r => [])) (Func.head Tryd.f19 1) ⟨ofT [(7, .int .i64 x7), (11, .str x11b), (55, sq eS x55b), (56, .int .i64 x56b), (57, .int .i64 x57b)], ofL []⟩ (pileref1_WithUnit.l1 k x7 x11b x55b x56b x57b)) ∧ (∀ (l0 : List Int) (a1 : Int) (x7 : Int) (x18 : Int) (v1000006 : Nat) (o1000006 : ByteArray), RS (fam Tryd.f19 [16, 23] [] [] (fun r : ByteArray × Int => .tup [.str r.1, .int .i64 r.2]) (fun r => [])) (Func.head Tryd.f19 0) ⟨ofT [(0, sq eI l0), (1, .int .i64 a1), (6, .ref 6 0 0 0 2), (7, .int .i64 x7), (17, .int .i64 (l0.length : Int)), (18, .int .i64 x18)], ofL [(6, .bx 89 1000006 v1000006 o1000006.size), (1000006, .bb 5 v1000006 o1000006)]⟩ (pileref1_WithUnit.l0 k l0 a1 x7 x18 v1000006 o1000006))
  | 0 => ⟨by intro _ _ _ _ _ _; simp only [pileref1_WithUnit.j16]; exact RS.none, by intro _ _ _ _ _ _ _ _; simp only [pileref1_WithUnit.l2]; exact RS.none, by intro _ _ _ _ _; simp only [pileref1_WithUnit.j23]; exact RS.none, by intro _ _ _ _ _; simp only [pileref1_WithUnit.l1]; exact RS.none, by intro _ _ _ _ _ _; simp only [pileref1_WithUnit.l0]; exact RS.none⟩
  | k + 1 => by
    have ih := pileref1_WithUnit.loops k
    refine ⟨?_, ?_, ?_, ?_, ?_⟩
    · intro l0 a1 x18 x7j16 v1000006j16 o1000006j16
      simp only [pileref1_WithUnit.j16]
      refine RS.region ?_
      refine RS.go ?_
      refine RT.goto rfl ?_
      refine RS.weak [(0, sq eI l0), (1, .int .i64 a1), (6, .ref 6 0 0 0 2), (7, .int .i64 x7j16), (17, .int .i64 (l0.length : Int)), (18, .int .i64 (wrap64 (x18 + 1)))] [(6, .bx 89 1000006 v1000006j16 o1000006j16.size), (1000006, .bb 5 v1000006j16 o1000006j16)] ⟨Le.eq (by first | rfl | simp), Le.eq (by first | rfl | simp), Le.eq (by first | rfl | simp), Le.eq (by first | rfl | simp), Le.eq (by first | rfl | simp), Le.eq (by first | rfl | simp), trivial⟩ ⟨⟨_, rfl, LeO.refl _⟩, ⟨_, rfl, LeO.refl _⟩, trivial⟩ rfl (dom0 rfl) ?_
      exact ih.2.2.2.2 l0 a1 x7j16 (wrap64 (x18 + 1)) v1000006j16 o1000006j16 
    · intro x7 x55b x56b x57b x11c x67c x68c x69c
      simp only [pileref1_WithUnit.l2]
      refine RS.go ?_
      refine RT.br rfl (fun c27 => ?_) (fun c27 => ?_)
      · refine RT.br rfl (fun c23 => ?_) (fun c23 => RT.none)
        refine RT.br rfl (fun c24 => ?_) (fun c24 => RT.none)
        refine RT.call0 rfl (fun _ h => pileref1_signOf.ok k (rdE eS x67c x69c) _ h) (LeL.eq rfl) (fun _ => rfl) (fun r25 => ?_)
        refine RS.go ?_
        refine RT.br rfl (fun c26 => ?_) (fun c26 => RT.none)
        refine RT.goto rfl ?_
        refine RS.weak [(7, .int .i64 x7), (11, .str (x11c ++ r25)), (55, sq eS x55b), (56, .int .i64 x56b), (57, .int .i64 x57b), (67, sq eS x67c), (68, .int .i64 x68c), (69, .int .i64 (wrap64 (x69c + 1)))] [] ⟨Le.eq (by first | rfl | simp), Le.eq (by first | rfl | simp), Le.eq (by first | rfl | simp), Le.eq (by first | rfl | simp), Le.eq (by first | rfl | simp), Le.eq (by first | rfl | simp), Le.eq (by first | rfl | simp), Le.eq (by first | rfl | simp), trivial⟩ trivial rfl (dom0 rfl) ?_
        exact ih.2.1 x7 x55b x56b x57b (x11c ++ r25) x67c x68c (wrap64 (x69c + 1)) 
      · refine RT.goto rfl ?_
        refine RS.weak [(7, .int .i64 x7), (11, .str x11c), (55, sq eS x55b), (56, .int .i64 x56b), (57, .int .i64 (wrap64 (x57b + 1)))] [] ⟨Le.eq (by first | rfl | simp), Le.eq (by first | rfl | simp), Le.eq (by first | rfl | simp), Le.eq (by first | rfl | simp), Le.eq (by first | rfl | simp), trivial⟩ trivial rfl (dom0 rfl) ?_
        exact ih.2.2.2.1 x7 x11c x55b x56b (wrap64 (x57b + 1)) 
    · intro x7 x55b x56b x57b x11j23
      simp only [pileref1_WithUnit.j23]
      refine RS.region ?_
      refine RS.go ?_
      refine RT.call0 rfl (fun _ h => strings_Split.ok (rdE eS x55b x57b) (⟨#[32]⟩ : ByteArray) _ h) (LeL.eq rfl) (fun _ => rfl) (fun r22 => ?_)
      refine RS.go ?_
      refine RT.goto rfl ?_
      refine RS.weak [(7, .int .i64 x7), (11, .str x11j23), (55, sq eS x55b), (56, .int .i64 x56b), (57, .int .i64 x57b), (67, sq eS r22), (68, .int .i64 (r22.length : Int)), (69, .int .i64 0)] [] ⟨Le.eq (by first | rfl | simp), Le.eq (by first | rfl | simp), Le.eq (by first | rfl | simp), Le.eq (by first | rfl | simp), Le.eq (by first | rfl | simp), Le.eq (by first | rfl | simp), Le.eq (by first | rfl | simp), Le.eq (by first | rfl | simp), trivial⟩ trivial rfl (dom0 rfl) ?_
      exact ih.2.1 x7 x55b x56b x57b x11j23 r22 (r22.length : Int) 0 
    · intro x7 x11b x55b x56b x57b
      simp only [pileref1_WithUnit.l1]
      refine RS.go ?_
      refine RT.br rfl (fun c29 => ?_) (fun c29 => ?_)
      · refine RT.br rfl (fun c19 => ?_) (fun c19 => RT.none)
        refine RT.br rfl (fun c20 => ?_) (fun c20 => RT.none)
        refine RT.br rfl (fun c28 => ?_) (fun c28 => ?_)
        · refine RT.br rfl (fun c21 => ?_) (fun c21 => RT.none)
          refine RT.goto rfl ?_
          refine RS.weak [(7, .int .i64 x7), (11, .str (x11b ++ (⟨#[32]⟩ : ByteArray))), (13, .str (rdE eS x55b x57b)), (55, sq eS x55b), (56, .int .i64 x56b), (57, .int .i64 x57b)] [] ⟨Le.eq (by first | rfl | simp), Le.eq (by first | rfl | simp), Le.eq (by first | rfl | simp), Le.eq (by first | rfl | simp), Le.eq (by first | rfl | simp), Le.eq (by first | rfl | simp), trivial⟩ trivial rfl (dom0 rfl) ?_
          exact ih.2.2.1 x7 x55b x56b x57b (x11b ++ (⟨#[32]⟩ : ByteArray)) 
        · refine RT.goto rfl ?_
          refine RS.weak [(7, .int .i64 x7), (11, .str x11b), (13, .str (rdE eS x55b x57b)), (55, sq eS x55b), (56, .int .i64 x56b), (57, .int .i64 x57b)] [] ⟨Le.eq (by first | rfl | simp), Le.eq (by first | rfl | simp), Le.eq (by first | rfl | simp), Le.eq (by first | rfl | simp), Le.eq (by first | rfl | simp), Le.eq (by first | rfl | simp), trivial⟩ trivial rfl (dom0 rfl) ?_
          exact ih.2.2.1 x7 x55b x56b x57b x11b 
      · exact RT.done rfl rfl (Le.tup (LeL.cons (Le.refl _) (LeL.cons (Le.refl _) (LeL.nil)))) trivial rfl (dom0 rfl)
    · intro l0 a1 x7 x18 v1000006 o1000006
      simp only [pileref1_WithUnit.l0]
      refine RS.go ?_
      refine RT.br rfl (fun c30 => ?_) (fun c30 => ?_)
      · refine RT.call0 rfl (fun _ h => pileref1_nearest.ok k l0 x18 a1 _ h) (LeL.eq rfl) (fun _ => rfl) (fun r1 => ?_)
        refine RS.go ?_
        refine RT.brF rfl ?_
        refine RT.br rfl (fun c16 => ?_) (fun c16 => ?_)
        · refine RT.brT rfl ?_
          refine RT.brT rfl ?_
          refine RT.br rfl (fun c9 => ?_) (fun c9 => ?_)
          · refine RT.call rfl (fun _ h => strings_Builder_WriteString.ok v1000006 o1000006 (⟨#[46]⟩ : ByteArray) _ h) (fun i => bif Nat.beq i 1100000 then 1000006 else bif Nat.beq i 100000 then 6 else i) (LeL.eq rfl) ⟨⟨_, rfl, LeO.refl _⟩, ⟨⟨_, rfl, LeO.refl _⟩, trivial⟩⟩ (fun _ => rfl) (fun r2 => ?_)
            refine RS.go ?_
            refine RT.goto rfl ?_
            refine RS.weak [(0, sq eI l0), (1, .int .i64 a1), (6, .ref 6 0 0 0 2), (7, .int .i64 (wrap64 (x7 + r1.2))), (17, .int .i64 (l0.length : Int)), (18, .int .i64 x18)] [(6, .bx 89 1000006 r2.1 r2.2.size), (1000006, .bb 5 r2.1 r2.2)] ⟨Le.eq (by first | rfl | simp), Le.eq (by first | rfl | simp), Le.eq (by first | rfl | simp), Le.eq (by first | rfl | simp), Le.eq (by first | rfl | simp), Le.eq (by first | rfl | simp), trivial⟩ ⟨⟨_, rfl, LeO.refl _⟩, ⟨_, rfl, LeO.refl _⟩, trivial⟩ rfl (dom0 rfl) ?_
            exact ih.1 l0 a1 x18 (wrap64 (x7 + r1.2)) r2.1 r2.2 
          · refine RT.brF rfl ?_
            refine RT.br rfl (fun c8 => ?_) (fun c8 => ?_)
            · refine RT.call rfl (fun _ h => strings_Builder_WriteString.ok v1000006 o1000006 (⟨#[45]⟩ : ByteArray) _ h) (fun i => bif Nat.beq i 1100000 then 1000006 else bif Nat.beq i 100000 then 6 else i) (LeL.eq rfl) ⟨⟨_, rfl, LeO.refl _⟩, ⟨⟨_, rfl, LeO.refl _⟩, trivial⟩⟩ (fun _ => rfl) (fun r3 => ?_)
              refine RS.go ?_
              refine RT.goto rfl ?_
              refine RS.weak [(0, sq eI l0), (1, .int .i64 a1), (6, .ref 6 0 0 0 2), (7, .int .i64 (wrap64 (x7 + r1.2))), (17, .int .i64 (l0.length : Int)), (18, .int .i64 x18)] [(6, .bx 89 1000006 r3.1 r3.2.size), (1000006, .bb 5 r3.1 r3.2)] ⟨Le.eq (by first | rfl | simp), Le.eq (by first | rfl | simp), Le.eq (by first | rfl | simp), Le.eq (by first | rfl | simp), Le.eq (by first | rfl | simp), Le.eq (by first | rfl | simp), trivial⟩ ⟨⟨_, rfl, LeO.refl _⟩, ⟨_, rfl, LeO.refl _⟩, trivial⟩ rfl (dom0 rfl) ?_
              exact ih.1 l0 a1 x18 (wrap64 (x7 + r1.2)) r3.1 r3.2 
            · refine RT.br rfl (fun c7 => ?_) (fun c7 => ?_)
              · refine RT.call rfl (fun _ h => strings_Builder_WriteString.ok v1000006 o1000006 (⟨#[32]⟩ : ByteArray) _ h) (fun i => bif Nat.beq i 1100000 then 1000006 else bif Nat.beq i 100000 then 6 else i) (LeL.eq rfl) ⟨⟨_, rfl, LeO.refl _⟩, ⟨⟨_, rfl, LeO.refl _⟩, trivial⟩⟩ (fun _ => rfl) (fun r4 => ?_)
                refine RS.go ?_
                refine RT.goto rfl ?_
                refine RS.weak [(0, sq eI l0), (1, .int .i64 a1), (6, .ref 6 0 0 0 2), (7, .int .i64 (wrap64 (x7 + r1.2))), (17, .int .i64 (l0.length : Int)), (18, .int .i64 x18)] [(6, .bx 89 1000006 r4.1 r4.2.size), (1000006, .bb 5 r4.1 r4.2)] ⟨Le.eq (by first | rfl | simp), Le.eq (by first | rfl | simp), Le.eq (by first | rfl | simp), Le.eq (by first | rfl | simp), Le.eq (by first | rfl | simp), Le.eq (by first | rfl | simp), trivial⟩ ⟨⟨_, rfl, LeO.refl _⟩, ⟨_, rfl, LeO.refl _⟩, trivial⟩ rfl (dom0 rfl) ?_
                exact ih.1 l0 a1 x18 (wrap64 (x7 + r1.2)) r4.1 r4.2 
              · refine RT.br rfl (fun c6 => ?_) (fun c6 => ?_)
                · refine RT.call rfl (fun _ h => strings_Builder_WriteString.ok v1000006 o1000006 (⟨#[32, 47, 32]⟩ : ByteArray) _ h) (fun i => bif Nat.beq i 1100000 then 1000006 else bif Nat.beq i 100000 then 6 else i) (LeL.eq rfl) ⟨⟨_, rfl, LeO.refl _⟩, ⟨⟨_, rfl, LeO.refl _⟩, trivial⟩⟩ (fun _ => rfl) (fun r5 => ?_)
                  refine RS.go ?_
                  refine RT.goto rfl ?_
                  refine RS.weak [(0, sq eI l0), (1, .int .i64 a1), (6, .ref 6 0 0 0 2), (7, .int .i64 (wrap64 (x7 + r1.2))), (17, .int .i64 (l0.length : Int)), (18, .int .i64 x18)] [(6, .bx 89 1000006 r5.1 r5.2.size), (1000006, .bb 5 r5.1 r5.2)] ⟨Le.eq (by first | rfl | simp), Le.eq (by first | rfl | simp), Le.eq (by first | rfl | simp), Le.eq (by first | rfl | simp), Le.eq (by first | rfl | simp), Le.eq (by first | rfl | simp), trivial⟩ ⟨⟨_, rfl, LeO.refl _⟩, ⟨_, rfl, LeO.refl _⟩, trivial⟩ rfl (dom0 rfl) ?_
                  exact ih.1 l0 a1 x18 (wrap64 (x7 + r1.2)) r5.1 r5.2 
                · refine RT.goto rfl ?_
                  refine RS.weak [(0, sq eI l0), (1, .int .i64 a1), (6, .ref 6 0 0 0 2), (7, .int .i64 (wrap64 (x7 + r1.2))), (17, .int .i64 (l0.length : Int)), (18, .int .i64 x18)] [(6, .bx 89 1000006 v1000006 o1000006.size), (1000006, .bb 5 v1000006 o1000006)] ⟨Le.eq (by first | rfl | simp), Le.eq (by first | rfl | simp), Le.eq (by first | rfl | simp), Le.eq (by first | rfl | simp), Le.eq (by first | rfl | simp), Le.eq (by first | rfl | simp), trivial⟩ ⟨⟨_, rfl, LeO.refl _⟩, ⟨_, rfl, LeO.refl _⟩, trivial⟩ rfl (dom0 rfl) ?_
                  exact ih.1 l0 a1 x18 (wrap64 (x7 + r1.2)) v1000006 o1000006 
        · refine RT.brF rfl ?_
          refine RT.brF rfl ?_
          refine RT.brF rfl ?_
          refine RT.brF rfl ?_
          refine RT.br rfl (fun c15 => ?_) (fun c15 => ?_)
          · refine RT.call rfl (fun _ h => strings_Builder_WriteString.ok v1000006 o1000006 (⟨#[45]⟩ : ByteArray) _ h) (fun i => bif Nat.beq i 1100000 then 1000006 else bif Nat.beq i 100000 then 6 else i) (LeL.eq rfl) ⟨⟨_, rfl, LeO.refl _⟩, ⟨⟨_, rfl, LeO.refl _⟩, trivial⟩⟩ (fun _ => rfl) (fun r10 => ?_)
            refine RS.go ?_
            refine RT.goto rfl ?_
            refine RS.weak [(0, sq eI l0), (1, .int .i64 a1), (6, .ref 6 0 0 0 2), (7, .int .i64 (wrap64 (x7 + r1.2))), (17, .int .i64 (l0.length : Int)), (18, .int .i64 x18)] [(6, .bx 89 1000006 r10.1 r10.2.size), (1000006, .bb 5 r10.1 r10.2)] ⟨Le.eq (by first | rfl | simp), Le.eq (by first | rfl | simp), Le.eq (by first | rfl | simp), Le.eq (by first | rfl | simp), Le.eq (by first | rfl | simp), Le.eq (by first | rfl | simp), trivial⟩ ⟨⟨_, rfl, LeO.refl _⟩, ⟨_, rfl, LeO.refl _⟩, trivial⟩ rfl (dom0 rfl) ?_
            exact ih.1 l0 a1 x18 (wrap64 (x7 + r1.2)) r10.1 r10.2 
          · refine RT.br rfl (fun c14 => ?_) (fun c14 => ?_)
            · refine RT.call rfl (fun _ h => strings_Builder_WriteString.ok v1000006 o1000006 (⟨#[32]⟩ : ByteArray) _ h) (fun i => bif Nat.beq i 1100000 then 1000006 else bif Nat.beq i 100000 then 6 else i) (LeL.eq rfl) ⟨⟨_, rfl, LeO.refl _⟩, ⟨⟨_, rfl, LeO.refl _⟩, trivial⟩⟩ (fun _ => rfl) (fun r11 => ?_)
              refine RS.go ?_
              refine RT.goto rfl ?_
              refine RS.weak [(0, sq eI l0), (1, .int .i64 a1), (6, .ref 6 0 0 0 2), (7, .int .i64 (wrap64 (x7 + r1.2))), (17, .int .i64 (l0.length : Int)), (18, .int .i64 x18)] [(6, .bx 89 1000006 r11.1 r11.2.size), (1000006, .bb 5 r11.1 r11.2)] ⟨Le.eq (by first | rfl | simp), Le.eq (by first | rfl | simp), Le.eq (by first | rfl | simp), Le.eq (by first | rfl | simp), Le.eq (by first | rfl | simp), Le.eq (by first | rfl | simp), trivial⟩ ⟨⟨_, rfl, LeO.refl _⟩, ⟨_, rfl, LeO.refl _⟩, trivial⟩ rfl (dom0 rfl) ?_
              exact ih.1 l0 a1 x18 (wrap64 (x7 + r1.2)) r11.1 r11.2 
            · refine RT.br rfl (fun c13 => ?_) (fun c13 => ?_)
              · refine RT.call rfl (fun _ h => strings_Builder_WriteString.ok v1000006 o1000006 (⟨#[32, 47, 32]⟩ : ByteArray) _ h) (fun i => bif Nat.beq i 1100000 then 1000006 else bif Nat.beq i 100000 then 6 else i) (LeL.eq rfl) ⟨⟨_, rfl, LeO.refl _⟩, ⟨⟨_, rfl, LeO.refl _⟩, trivial⟩⟩ (fun _ => rfl) (fun r12 => ?_)
                refine RS.go ?_
                refine RT.goto rfl ?_
                refine RS.weak [(0, sq eI l0), (1, .int .i64 a1), (6, .ref 6 0 0 0 2), (7, .int .i64 (wrap64 (x7 + r1.2))), (17, .int .i64 (l0.length : Int)), (18, .int .i64 x18)] [(6, .bx 89 1000006 r12.1 r12.2.size), (1000006, .bb 5 r12.1 r12.2)] ⟨Le.eq (by first | rfl | simp), Le.eq (by first | rfl | simp), Le.eq (by first | rfl | simp), Le.eq (by first | rfl | simp), Le.eq (by first | rfl | simp), Le.eq (by first | rfl | simp), trivial⟩ ⟨⟨_, rfl, LeO.refl _⟩, ⟨_, rfl, LeO.refl _⟩, trivial⟩ rfl (dom0 rfl) ?_
                exact ih.1 l0 a1 x18 (wrap64 (x7 + r1.2)) r12.1 r12.2 
              · refine RT.goto rfl ?_
                refine RS.weak [(0, sq eI l0), (1, .int .i64 a1), (6, .ref 6 0 0 0 2), (7, .int .i64 (wrap64 (x7 + r1.2))), (17, .int .i64 (l0.length : Int)), (18, .int .i64 x18)] [(6, .bx 89 1000006 v1000006 o1000006.size), (1000006, .bb 5 v1000006 o1000006)] ⟨Le.eq (by first | rfl | simp), Le.eq (by first | rfl | simp), Le.eq (by first | rfl | simp), Le.eq (by first | rfl | simp), Le.eq (by first | rfl | simp), Le.eq (by first | rfl | simp), trivial⟩ ⟨⟨_, rfl, LeO.refl _⟩, ⟨_, rfl, LeO.refl _⟩, trivial⟩ rfl (dom0 rfl) ?_
                exact ih.1 l0 a1 x18 (wrap64 (x7 + r1.2)) v1000006 o1000006 
      · refine RT.call rfl (fun _ h => strings_Builder_String.ok v1000006 o1000006 _ h) (fun i => bif Nat.beq i 1100000 then 1000006 else bif Nat.beq i 100000 then 6 else i) (LeL.eq rfl) ⟨⟨_, rfl, LeO.refl _⟩, ⟨⟨_, rfl, LeO.refl _⟩, trivial⟩⟩ (fun _ => rfl) (fun r17 => ?_)
        refine RS.go ?_
        refine RT.call0 rfl (fun _ h => strings_Split.ok r17.2 (⟨#[32, 47, 32]⟩ : ByteArray) _ h) (LeL.eq rfl) (fun _ => rfl) (fun r18 => ?_)
        refine RS.go ?_
        refine RT.goto rfl ?_
        refine RS.weak [(7, .int .i64 x7), (11, .str (⟨#[]⟩ : ByteArray)), (55, sq eS r18), (56, .int .i64 (r18.length : Int)), (57, .int .i64 0)] [] ⟨Le.eq (by first | rfl | simp), Le.eq (by first | rfl | simp), Le.eq (by first | rfl | simp), Le.eq (by first | rfl | simp), Le.eq (by first | rfl | simp), trivial⟩ trivial rfl (dom0 rfl) ?_
        exact ih.2.2.2.1 x7 (⟨#[]⟩ : ByteArray) r18 (r18.length : Int) 0 
theorem pileref1_WithUnit.ok (k : Nat) (l0 : List Int) (a1 : Int) (r : ByteArray × Int) (h : pileref1_WithUnit.f k l0 a1 = some r) : Ct Tryd.prog B 19 [sq eI l0, .int .i64 a1] (ofL []) (.tup [.str r.1, .int .i64 r.2]) (ofL []) := by
  refine Ct.of (Y := (fam Tryd.f19 [16, 23] [] [] (fun r : ByteArray × Int => .tup [.str r.1, .int .i64 r.2]) (fun r => []))) Tryd.func19 rfl Tryd.call19 rfl rfl ?_ r h
  unfold pileref1_WithUnit.f
  refine RS.go ?_
  refine RT.goto rfl ?_
  refine RS.bdnew 1000006 5 rfl ?_
  refine RS.obj 6 (.bx 89 1000006 0 ByteArray.empty.size) ⟨_, rfl, LeO.refl _⟩ ?_
  refine RS.go ?_
  refine RT.goto rfl ?_
  refine RS.weak [(0, sq eI l0), (1, .int .i64 a1), (6, .ref 6 0 0 0 2), (7, .int .i64 0), (17, .int .i64 (l0.length : Int)), (18, .int .i64 0)] [(6, .bx 89 1000006 0 ByteArray.empty.size), (1000006, .bb 5 0 ByteArray.empty)] ⟨Le.eq (by first | rfl | simp), Le.eq (by first | rfl | simp), Le.eq (by first | rfl | simp), Le.eq (by first | rfl | simp), Le.eq (by first | rfl | simp), Le.eq (by first | rfl | simp), trivial⟩ ⟨⟨_, rfl, LeO.refl _⟩, ⟨_, rfl, LeO.refl _⟩, trivial⟩ rfl (dom0 rfl) ?_
  exact (pileref1_WithUnit.loops k).2.2.2.2 l0 a1 0 0 0 ByteArray.empty 
/-! ### pileref1_UnevenOf: function 20 -/
mutual
def pileref1_UnevenOf.j8 : Nat → List Int → Int → Int → List Int → Option ((List Int))
  | 0, _, _, _, _ => Option.none
  | k + 1, l0, a1, x11, o5j8 => pileref1_UnevenOf.l0 k l0 a1 (wrap64 (x11 + 1)) o5j8
def pileref1_UnevenOf.l0 : Nat → List Int → Int → Int → List Int → Option ((List Int))
  | 0, _, _, _, _ => Option.none
  | k + 1, l0, a1, x11, o5 => (if x11 < (l0.length : Int) then ((pileref1_nearest.f k l0 x11 a1).bind fun r1 => (if wrap64 (2 * r1.2) > a1 then (if o5.length + 1 ≤ 549755813888 then pileref1_UnevenOf.j8 k l0 a1 x11 (o5 ++ [x11]) else Option.none) else pileref1_UnevenOf.j8 k l0 a1 x11 o5)) else Option.some o5)
end
def pileref1_UnevenOf.f (k : Nat) (l0 : List Int) (a1 : Int) : Option ((List Int)) := pileref1_UnevenOf.l0 k l0 a1 0 []
theorem pileref1_UnevenOf.loops : ∀ k, (∀ (l0 : List Int) (a1 : Int) (x11 : Int) (o5j8 : List Int), RS (fam Tryd.f20 [8] [] [] (fun r : (List Int) => sq eI r) (fun r => [])) (Func.reg Tryd.f20 8) ⟨ofT [(0, sq eI l0), (1, .int .i64 a1), (5, .osl 5 eI.w 0 o5j8.length o5j8.length), (10, .int .i64 (l0.length : Int)), (11, .int .i64 x11)], ofL [(5, bufE eI o5j8)]⟩ (pileref1_UnevenOf.j8 k l0 a1 x11 o5j8)) ∧ (∀ (l0 : List Int) (a1 : Int) (x11 : Int) (o5 : List Int), RS (fam Tryd.f20 [8] [] [] (fun r : (List Int) => sq eI r) (fun r => [])) (Func.head Tryd.f20 0) ⟨ofT [(0, sq eI l0), (1, .int .i64 a1), (5, .osl 5 eI.w 0 o5.length o5.length), (10, .int .i64 (l0.length : Int)), (11, .int .i64 x11)], ofL [(5, bufE eI o5)]⟩ (pileref1_UnevenOf.l0 k l0 a1 x11 o5))
  | 0 => ⟨by intro _ _ _ _; simp only [pileref1_UnevenOf.j8]; exact RS.none, by intro _ _ _ _; simp only [pileref1_UnevenOf.l0]; exact RS.none⟩
  | k + 1 => by
    have ih := pileref1_UnevenOf.loops k
    refine ⟨?_, ?_⟩
    · intro l0 a1 x11 o5j8
      simp only [pileref1_UnevenOf.j8]
      refine RS.region ?_
      refine RS.go ?_
      refine RT.goto rfl ?_
      refine RS.weak [(0, sq eI l0), (1, .int .i64 a1), (5, .osl 5 eI.w 0 o5j8.length o5j8.length), (10, .int .i64 (l0.length : Int)), (11, .int .i64 (wrap64 (x11 + 1)))] [(5, bufE eI o5j8)] ⟨Le.eq (by first | rfl | simp), Le.eq (by first | rfl | simp), (by first | exact Le.oslN rfl (by first | rfl | simp) | exact Le.refl _ | exact Le.eq (by first | rfl | simp)), Le.eq (by first | rfl | simp), Le.eq (by first | rfl | simp), trivial⟩ ⟨⟨_, rfl, LeO.refl _⟩, trivial⟩ rfl (dom0 rfl) ?_
      exact ih.2 l0 a1 (wrap64 (x11 + 1)) o5j8 
    · intro l0 a1 x11 o5
      simp only [pileref1_UnevenOf.l0]
      refine RS.go ?_
      refine RT.br rfl (fun c4 => ?_) (fun c4 => ?_)
      · refine RT.call0 rfl (fun _ h => pileref1_nearest.ok k l0 x11 a1 _ h) (LeL.eq rfl) (fun _ => rfl) (fun r1 => ?_)
        refine RS.go ?_
        refine RT.br rfl (fun c3 => ?_) (fun c3 => ?_)
        · refine RT.goto rfl ?_
          refine RS.slot 27 (sq eI [x11]) (Le.lit (E := eI) (l := [x11]) (cells_of rfl)) ?_
          refine RS.go ?_
          refine RT.req rfl ⟨by first | rfl | simp, by first | exact Nat.le_refl _ | simp⟩ ?_
          refine RT.not rfl (by simp <;> omega) ?_
          refine RT.br rfl (fun c2 => ?_) (fun _ => RT.none)
          refine RT.goto rfl ?_
          refine RS.obj 5 (bufE eI (o5 ++ [x11])) ⟨_, rfl, LeO.app (l := o5) (m := [x11]) fun _ _ _ _ => rfl⟩ ?_
          refine RS.slot 28 (.osl 5 eI.w 0 (o5 ++ [x11]).length (o5 ++ [x11]).length) (by first | exact Le.oslN rfl (by simp) | exact Le.trans (y := .osl 5 eI.w 0 (o5.length + 1) (o5.length + 1)) (Le.refl _) (Le.oslN rfl (by simp))) ?_
          refine RS.go ?_
          refine RT.goto rfl ?_
          refine RS.weak [(0, sq eI l0), (1, .int .i64 a1), (5, .osl 5 eI.w 0 (o5 ++ [x11]).length (o5 ++ [x11]).length), (10, .int .i64 (l0.length : Int)), (11, .int .i64 x11)] [(5, bufE eI (o5 ++ [x11]))] ⟨Le.eq (by first | rfl | simp), Le.eq (by first | rfl | simp), (by first | exact Le.oslN rfl (by first | rfl | simp) | exact Le.refl _ | exact Le.eq (by first | rfl | simp)), Le.eq (by first | rfl | simp), Le.eq (by first | rfl | simp), trivial⟩ ⟨⟨_, rfl, LeO.refl _⟩, trivial⟩ rfl (dom0 rfl) ?_
          exact ih.1 l0 a1 x11 (o5 ++ [x11]) 
        · refine RT.goto rfl ?_
          refine RS.weak [(0, sq eI l0), (1, .int .i64 a1), (5, .osl 5 eI.w 0 o5.length o5.length), (10, .int .i64 (l0.length : Int)), (11, .int .i64 x11)] [(5, bufE eI o5)] ⟨Le.eq (by first | rfl | simp), Le.eq (by first | rfl | simp), (by first | exact Le.oslN rfl (by first | rfl | simp) | exact Le.refl _ | exact Le.eq (by first | rfl | simp)), Le.eq (by first | rfl | simp), Le.eq (by first | rfl | simp), trivial⟩ ⟨⟨_, rfl, LeO.refl _⟩, trivial⟩ rfl (dom0 rfl) ?_
          exact ih.1 l0 a1 x11 o5 
      · refine RT.freeze 5 _ _ _ [(4, sq eI o5)] [] rfl rfl ⟨.inr ⟨_, rfl, by first | exact Nat.le_refl _ | simp, rfl⟩, trivial⟩ trivial rfl (dom0 rfl) ?_
        exact RT.done rfl rfl (Le.refl _) trivial rfl (dom0 rfl)
theorem pileref1_UnevenOf.ok (k : Nat) (l0 : List Int) (a1 : Int) (r : (List Int)) (h : pileref1_UnevenOf.f k l0 a1 = some r) : Ct Tryd.prog B 20 [sq eI l0, .int .i64 a1] (ofL []) (sq eI r) (ofL []) := by
  refine Ct.of (Y := (fam Tryd.f20 [8] [] [] (fun r : (List Int) => sq eI r) (fun r => []))) Tryd.func20 rfl Tryd.call20 rfl rfl ?_ r h
  unfold pileref1_UnevenOf.f
  refine RS.go ?_
  refine RT.goto rfl ?_
  refine RS.ghost 5 5 eI.w (rep eI []) rfl rfl ?_
  refine RS.weak [(0, sq eI l0), (1, .int .i64 a1), (5, .osl 5 eI.w 0 ([] : List Int).length ([] : List Int).length), (10, .int .i64 (l0.length : Int)), (11, .int .i64 0)] [(5, bufE eI ([] : List Int))] ⟨Le.eq (by first | rfl | simp), Le.eq (by first | rfl | simp), (by first | exact Le.oslN rfl (by first | rfl | simp) | exact Le.refl _ | exact Le.eq (by first | rfl | simp)), Le.eq (by first | rfl | simp), Le.eq (by first | rfl | simp), trivial⟩ ⟨⟨_, rfl, LeO.refl _⟩, trivial⟩ rfl (dom0 rfl) ?_
  exact (pileref1_UnevenOf.loops k).2 l0 a1 0 [] 
/-! ### pileref1_merged: function 70 -/
def pileref1_merged.k0 : List DK := [⟨[57, 56], [7], [], [7]⟩, ⟨[41, 43], [7], [57], []⟩, ⟨[45, 55], [], [56], []⟩, ⟨[49, 54], [], [55], []⟩, ⟨[53], [], [54], []⟩, ⟨[50, 52], [], [53], []⟩, ⟨[51], [], [52], []⟩, ⟨[8], [], [51], []⟩, ⟨[0], [], [50], []⟩, ⟨[48], [], [49], []⟩, ⟨[46, 47], [], [48], []⟩, ⟨[8], [], [47], []⟩, ⟨[0], [], [46], []⟩, ⟨[44], [7], [45], []⟩, ⟨[41, 43], [7], [44], []⟩, ⟨[42], [], [43], []⟩, ⟨[9], [], [42], []⟩, ⟨[7], [], [41], []⟩]
def pileref1_merged.k1 : List Nat := [0, 0, 2, 7, 15, 0, 0, 96, 224, 0, 0, 1024, 3584, 7680, 16352, 32767, 65535, 131071]
mutual
def pileref1_merged.j4 : Nat → List Int → Int → Int → Int → List Int → Option ((List Int))
  | 0, _, _, _, _, _ => Option.none
  | k + 1, l0, a1, a2, x8j4, o7j4 => pileref1_merged.l0 k l0 a1 a2 (wrap64 (x8j4 + 1)) o7j4
def pileref1_merged.l0 : Nat → List Int → Int → Int → Int → List Int → Option ((List Int))
  | 0, _, _, _, _, _ => Option.none
  | k + 1, l0, a1, a2, x8, o7 => (if x8 < (l0.length : Int) then (if Int.tmod x8 2 = a1 then (if 0 ≤ x8 then (if x8 < (l0.length : Int) then (if (rd l0 x8) < a2 then (if (o7.length : Int) > 0 then (if wrap64 (x8 + 1) < (l0.length : Int) then (if 0 ≤ wrap64 ((o7.length : Int) - 1) then (if wrap64 ((o7.length : Int) - 1) < (o7.length : Int) then (if 0 ≤ x8 then (if x8 < (l0.length : Int) then (if 0 ≤ wrap64 (x8 + 1) then (if wrap64 (x8 + 1) < (l0.length : Int) then (if 0 ≤ wrap64 ((o7.length : Int) - 1) then (if wrap64 ((o7.length : Int) - 1) < (o7.length : Int) then pileref1_merged.j4 k l0 a1 a2 (wrap64 (x8 + 1)) (o7.set ((wrap64 ((o7.length : Int) - 1))).toNat (wrap64 ((rd o7 (wrap64 ((o7.length : Int) - 1))) + (wrap64 ((rd l0 x8) + (rd l0 (wrap64 (x8 + 1)))))))) else Option.none) else Option.none) else Option.none) else Option.none) else Option.none) else Option.none) else Option.none) else Option.none) else (if 0 ≤ x8 then (if x8 < (l0.length : Int) then (if o7.length + 1 ≤ 549755813888 then pileref1_merged.j4 k l0 a1 a2 x8 (o7 ++ [(rd l0 x8)]) else Option.none) else Option.none) else Option.none)) else (if 0 ≤ x8 then (if x8 < (l0.length : Int) then (if o7.length + 1 ≤ 549755813888 then pileref1_merged.j4 k l0 a1 a2 x8 (o7 ++ [(rd l0 x8)]) else Option.none) else Option.none) else Option.none)) else (if 0 ≤ x8 then (if x8 < (l0.length : Int) then (if o7.length + 1 ≤ 549755813888 then pileref1_merged.j4 k l0 a1 a2 x8 (o7 ++ [(rd l0 x8)]) else Option.none) else Option.none) else Option.none)) else Option.none) else Option.none) else (if 0 ≤ x8 then (if x8 < (l0.length : Int) then (if o7.length + 1 ≤ 549755813888 then pileref1_merged.j4 k l0 a1 a2 x8 (o7 ++ [(rd l0 x8)]) else Option.none) else Option.none) else Option.none)) else Option.some o7)
end
def pileref1_merged.f (k : Nat) (l0 : List Int) (a1 : Int) (a2 : Int) : Option ((List Int)) := pileref1_merged.l0 k l0 a1 a2 0 []
theorem pileref1_merged.loops : ∀ k, (∀ (l0 : List Int) (a1 : Int) (a2 : Int) (x8j4 : Int) (o7j4 : List Int), RS (fam Tryd.f70 [4] [] [] (fun r : (List Int) => sq eI r) (fun r => [])) (Func.reg Tryd.f70 4) ⟨ofT [(0, sq eI l0), (1, .int .i64 a1), (2, .int .i64 a2), (7, .osl 7 eI.w 0 o7j4.length o7j4.length), (8, .int .i64 x8j4)], ofL [(7, bufE eI o7j4)]⟩ (pileref1_merged.j4 k l0 a1 a2 x8j4 o7j4)) ∧ (∀ (l0 : List Int) (a1 : Int) (a2 : Int) (x8 : Int) (o7 : List Int), RS (fam Tryd.f70 [4] [] [] (fun r : (List Int) => sq eI r) (fun r => [])) (Func.head Tryd.f70 0) ⟨ofT [(0, sq eI l0), (1, .int .i64 a1), (2, .int .i64 a2), (7, .osl 7 eI.w 0 o7.length o7.length), (8, .int .i64 x8)], ofL [(7, bufE eI o7)]⟩ (pileref1_merged.l0 k l0 a1 a2 x8 o7))
  | 0 => ⟨by intro _ _ _ _ _; simp only [pileref1_merged.j4]; exact RS.none, by intro _ _ _ _ _; simp only [pileref1_merged.l0]; exact RS.none⟩
  | k + 1 => by
    have ih := pileref1_merged.loops k
    refine ⟨?_, ?_⟩
    · intro l0 a1 a2 x8j4 o7j4
      simp only [pileref1_merged.j4]
      refine RS.region ?_
      refine RS.go ?_
      refine RT.goto rfl ?_
      refine RS.weak [(0, sq eI l0), (1, .int .i64 a1), (2, .int .i64 a2), (7, .osl 7 eI.w 0 o7j4.length o7j4.length), (8, .int .i64 (wrap64 (x8j4 + 1)))] [(7, bufE eI o7j4)] ⟨Le.eq (by first | rfl | simp), Le.eq (by first | rfl | simp), Le.eq (by first | rfl | simp), (by first | exact Le.oslN rfl (by first | rfl | simp) | exact Le.refl _ | exact Le.eq (by first | rfl | simp)), Le.eq (by first | rfl | simp), trivial⟩ ⟨⟨_, rfl, LeO.refl _⟩, trivial⟩ rfl (dom0 rfl) ?_
      exact ih.2 l0 a1 a2 (wrap64 (x8j4 + 1)) o7j4 
    · intro l0 a1 a2 x8 o7
      simp only [pileref1_merged.l0]
      refine RS.go ?_
      refine RT.br rfl (fun c27 => ?_) (fun c27 => ?_)
      · refine RT.req rfl (by first | exact Nat.zero_add _ | rfl | simp [szf, szOf]) ?_
        refine RT.brF rfl ?_
        refine RT.br rfl (fun c26 => ?_) (fun c26 => ?_)
        · refine RT.brT rfl ?_
          refine RT.brT rfl ?_
          refine RT.br rfl (fun c1 => ?_) (fun c1 => RT.none)
          refine RT.br rfl (fun c2 => ?_) (fun c2 => RT.none)
          refine RT.brT rfl ?_
          refine RT.brT rfl ?_
          refine RT.brT rfl ?_
          refine RT.brT rfl ?_
          refine RT.br rfl (fun c22 => ?_) (fun c22 => ?_)
          · refine RT.brT rfl ?_
            refine RT.brT rfl ?_
            refine RT.br rfl (fun c18 => ?_) (fun c18 => ?_)
            · refine RT.brT rfl ?_
              refine RT.brT rfl ?_
              refine RT.brT rfl ?_
              refine RT.brT rfl ?_
              refine RT.brT rfl ?_
              refine RT.br rfl (fun c14 => ?_) (fun c14 => ?_)
              · refine RT.goto rfl ?_
                refine RS.draw rfl ?_
                refine RD.req rfl (by first | exact Nat.zero_add _ | rfl | simp) ?_
                refine RD.br rfl (fun c3 => ?_) (fun c3 => RD.none)
                refine RD.br rfl (fun c4 => ?_) (fun c4 => RD.none)
                refine RD.req rfl ⟨by first | rfl | simp, elt_lt c3 (by first | exact c4 | simpa using c4)⟩ ?_
                refine RD.br rfl (fun c5 => ?_) (fun c5 => RD.none)
                refine RD.br rfl (fun c6 => ?_) (fun c6 => RD.none)
                refine RD.br rfl (fun c7 => ?_) (fun c7 => RD.none)
                refine RD.br rfl (fun c8 => ?_) (fun c8 => RD.none)
                refine RD.req rfl (by first | exact Nat.zero_add _ | rfl | simp) ?_
                refine RD.br rfl (fun c9 => ?_) (fun c9 => RD.none)
                refine RD.br rfl (fun c10 => ?_) (fun c10 => RD.none)
                refine RD.req rfl ⟨by first | rfl | simp, elt_lt c9 (by first | exact c10 | simpa using c10)⟩ ?_
                refine RD.fin pileref1_merged.k0 pileref1_merged.k1 rfl rfl (by decide +kernel) ?_
                refine RS.obj 7 (bufE eI (o7.set ((wrap64 ((o7.length : Int) - 1))).toNat (wrap64 ((rd o7 (wrap64 ((o7.length : Int) - 1))) + (wrap64 ((rd l0 x8) + (rd l0 (wrap64 (x8 + 1))))))))) ⟨_, rfl, LeO.setE c9 (by first | exact c10 | simpa using c10) (all1 rfl)⟩ ?_
                refine RS.go ?_
                refine RT.goto rfl ?_
                refine RS.weak [(0, sq eI l0), (1, .int .i64 a1), (2, .int .i64 a2), (7, .osl 7 eI.w 0 (o7.set ((wrap64 ((o7.length : Int) - 1))).toNat (wrap64 ((rd o7 (wrap64 ((o7.length : Int) - 1))) + (wrap64 ((rd l0 x8) + (rd l0 (wrap64 (x8 + 1)))))))).length (o7.set ((wrap64 ((o7.length : Int) - 1))).toNat (wrap64 ((rd o7 (wrap64 ((o7.length : Int) - 1))) + (wrap64 ((rd l0 x8) + (rd l0 (wrap64 (x8 + 1)))))))).length), (8, .int .i64 (wrap64 (x8 + 1)))] [(7, bufE eI (o7.set ((wrap64 ((o7.length : Int) - 1))).toNat (wrap64 ((rd o7 (wrap64 ((o7.length : Int) - 1))) + (wrap64 ((rd l0 x8) + (rd l0 (wrap64 (x8 + 1)))))))))] ⟨Le.eq (by first | rfl | simp), Le.eq (by first | rfl | simp), Le.eq (by first | rfl | simp), (by first | exact Le.oslN rfl (by first | rfl | simp) | exact Le.refl _ | exact Le.eq (by first | rfl | simp)), Le.eq (by first | rfl | simp), trivial⟩ ⟨⟨_, rfl, LeO.refl _⟩, trivial⟩ rfl (dom0 rfl) ?_
                exact ih.1 l0 a1 a2 (wrap64 (x8 + 1)) (o7.set ((wrap64 ((o7.length : Int) - 1))).toNat (wrap64 ((rd o7 (wrap64 ((o7.length : Int) - 1))) + (wrap64 ((rd l0 x8) + (rd l0 (wrap64 (x8 + 1)))))))) 
              · refine RT.br rfl (fun c11 => ?_) (fun c11 => RT.none)
                refine RT.br rfl (fun c12 => ?_) (fun c12 => RT.none)
                refine RT.goto rfl ?_
                refine RS.slot 65 (sq eI [(rd l0 x8)]) (Le.lit (E := eI) (l := [(rd l0 x8)]) (cells_of rfl)) ?_
                refine RS.go ?_
                refine RT.req rfl ⟨by first | rfl | simp, by first | exact Nat.le_refl _ | simp⟩ ?_
                refine RT.not rfl (by simp <;> omega) ?_
                refine RT.br rfl (fun c13 => ?_) (fun _ => RT.none)
                refine RT.goto rfl ?_
                refine RS.obj 7 (bufE eI (o7 ++ [(rd l0 x8)])) ⟨_, rfl, LeO.app (l := o7) (m := [(rd l0 x8)]) fun _ _ _ _ => rfl⟩ ?_
                refine RS.slot 66 (.osl 7 eI.w 0 (o7 ++ [(rd l0 x8)]).length (o7 ++ [(rd l0 x8)]).length) (by first | exact Le.oslN rfl (by simp) | exact Le.trans (y := .osl 7 eI.w 0 (o7.length + 1) (o7.length + 1)) (Le.refl _) (Le.oslN rfl (by simp))) ?_
                refine RS.go ?_
                refine RT.goto rfl ?_
                refine RS.weak [(0, sq eI l0), (1, .int .i64 a1), (2, .int .i64 a2), (7, .osl 7 eI.w 0 (o7 ++ [(rd l0 x8)]).length (o7 ++ [(rd l0 x8)]).length), (8, .int .i64 x8)] [(7, bufE eI (o7 ++ [(rd l0 x8)]))] ⟨Le.eq (by first | rfl | simp), Le.eq (by first | rfl | simp), Le.eq (by first | rfl | simp), (by first | exact Le.oslN rfl (by first | rfl | simp) | exact Le.refl _ | exact Le.eq (by first | rfl | simp)), Le.eq (by first | rfl | simp), trivial⟩ ⟨⟨_, rfl, LeO.refl _⟩, trivial⟩ rfl (dom0 rfl) ?_
                exact ih.1 l0 a1 a2 x8 (o7 ++ [(rd l0 x8)]) 
            · refine RT.brF rfl ?_
              refine RT.brF rfl ?_
              refine RT.brF rfl ?_
              refine RT.brF rfl ?_
              refine RT.brF rfl ?_
              refine RT.brF rfl ?_
              refine RT.br rfl (fun c15 => ?_) (fun c15 => RT.none)
              refine RT.br rfl (fun c16 => ?_) (fun c16 => RT.none)
              refine RT.goto rfl ?_
              refine RS.slot 65 (sq eI [(rd l0 x8)]) (Le.lit (E := eI) (l := [(rd l0 x8)]) (cells_of rfl)) ?_
              refine RS.go ?_
              refine RT.req rfl ⟨by first | rfl | simp, by first | exact Nat.le_refl _ | simp⟩ ?_
              refine RT.not rfl (by simp <;> omega) ?_
              refine RT.br rfl (fun c17 => ?_) (fun _ => RT.none)
              refine RT.goto rfl ?_
              refine RS.obj 7 (bufE eI (o7 ++ [(rd l0 x8)])) ⟨_, rfl, LeO.app (l := o7) (m := [(rd l0 x8)]) fun _ _ _ _ => rfl⟩ ?_
              refine RS.slot 66 (.osl 7 eI.w 0 (o7 ++ [(rd l0 x8)]).length (o7 ++ [(rd l0 x8)]).length) (by first | exact Le.oslN rfl (by simp) | exact Le.trans (y := .osl 7 eI.w 0 (o7.length + 1) (o7.length + 1)) (Le.refl _) (Le.oslN rfl (by simp))) ?_
              refine RS.go ?_
              refine RT.goto rfl ?_
              refine RS.weak [(0, sq eI l0), (1, .int .i64 a1), (2, .int .i64 a2), (7, .osl 7 eI.w 0 (o7 ++ [(rd l0 x8)]).length (o7 ++ [(rd l0 x8)]).length), (8, .int .i64 x8)] [(7, bufE eI (o7 ++ [(rd l0 x8)]))] ⟨Le.eq (by first | rfl | simp), Le.eq (by first | rfl | simp), Le.eq (by first | rfl | simp), (by first | exact Le.oslN rfl (by first | rfl | simp) | exact Le.refl _ | exact Le.eq (by first | rfl | simp)), Le.eq (by first | rfl | simp), trivial⟩ ⟨⟨_, rfl, LeO.refl _⟩, trivial⟩ rfl (dom0 rfl) ?_
              exact ih.1 l0 a1 a2 x8 (o7 ++ [(rd l0 x8)]) 
          · refine RT.brF rfl ?_
            refine RT.brF rfl ?_
            refine RT.brF rfl ?_
            refine RT.brF rfl ?_
            refine RT.brF rfl ?_
            refine RT.brF rfl ?_
            refine RT.brF rfl ?_
            refine RT.brF rfl ?_
            refine RT.brF rfl ?_
            refine RT.br rfl (fun c19 => ?_) (fun c19 => RT.none)
            refine RT.br rfl (fun c20 => ?_) (fun c20 => RT.none)
            refine RT.goto rfl ?_
            refine RS.slot 65 (sq eI [(rd l0 x8)]) (Le.lit (E := eI) (l := [(rd l0 x8)]) (cells_of rfl)) ?_
            refine RS.go ?_
            refine RT.req rfl ⟨by first | rfl | simp, by first | exact Nat.le_refl _ | simp⟩ ?_
            refine RT.not rfl (by simp <;> omega) ?_
            refine RT.br rfl (fun c21 => ?_) (fun _ => RT.none)
            refine RT.goto rfl ?_
            refine RS.obj 7 (bufE eI (o7 ++ [(rd l0 x8)])) ⟨_, rfl, LeO.app (l := o7) (m := [(rd l0 x8)]) fun _ _ _ _ => rfl⟩ ?_
            refine RS.slot 66 (.osl 7 eI.w 0 (o7 ++ [(rd l0 x8)]).length (o7 ++ [(rd l0 x8)]).length) (by first | exact Le.oslN rfl (by simp) | exact Le.trans (y := .osl 7 eI.w 0 (o7.length + 1) (o7.length + 1)) (Le.refl _) (Le.oslN rfl (by simp))) ?_
            refine RS.go ?_
            refine RT.goto rfl ?_
            refine RS.weak [(0, sq eI l0), (1, .int .i64 a1), (2, .int .i64 a2), (7, .osl 7 eI.w 0 (o7 ++ [(rd l0 x8)]).length (o7 ++ [(rd l0 x8)]).length), (8, .int .i64 x8)] [(7, bufE eI (o7 ++ [(rd l0 x8)]))] ⟨Le.eq (by first | rfl | simp), Le.eq (by first | rfl | simp), Le.eq (by first | rfl | simp), (by first | exact Le.oslN rfl (by first | rfl | simp) | exact Le.refl _ | exact Le.eq (by first | rfl | simp)), Le.eq (by first | rfl | simp), trivial⟩ ⟨⟨_, rfl, LeO.refl _⟩, trivial⟩ rfl (dom0 rfl) ?_
            exact ih.1 l0 a1 a2 x8 (o7 ++ [(rd l0 x8)]) 
        · refine RT.brF rfl ?_
          refine RT.brF rfl ?_
          refine RT.brF rfl ?_
          refine RT.brF rfl ?_
          refine RT.brF rfl ?_
          refine RT.brF rfl ?_
          refine RT.brF rfl ?_
          refine RT.brF rfl ?_
          refine RT.brF rfl ?_
          refine RT.brF rfl ?_
          refine RT.brF rfl ?_
          refine RT.brF rfl ?_
          refine RT.brF rfl ?_
          refine RT.brF rfl ?_
          refine RT.brF rfl ?_
          refine RT.brF rfl ?_
          refine RT.br rfl (fun c23 => ?_) (fun c23 => RT.none)
          refine RT.br rfl (fun c24 => ?_) (fun c24 => RT.none)
          refine RT.goto rfl ?_
          refine RS.slot 65 (sq eI [(rd l0 x8)]) (Le.lit (E := eI) (l := [(rd l0 x8)]) (cells_of rfl)) ?_
          refine RS.go ?_
          refine RT.req rfl ⟨by first | rfl | simp, by first | exact Nat.le_refl _ | simp⟩ ?_
          refine RT.not rfl (by simp <;> omega) ?_
          refine RT.br rfl (fun c25 => ?_) (fun _ => RT.none)
          refine RT.goto rfl ?_
          refine RS.obj 7 (bufE eI (o7 ++ [(rd l0 x8)])) ⟨_, rfl, LeO.app (l := o7) (m := [(rd l0 x8)]) fun _ _ _ _ => rfl⟩ ?_
          refine RS.slot 66 (.osl 7 eI.w 0 (o7 ++ [(rd l0 x8)]).length (o7 ++ [(rd l0 x8)]).length) (by first | exact Le.oslN rfl (by simp) | exact Le.trans (y := .osl 7 eI.w 0 (o7.length + 1) (o7.length + 1)) (Le.refl _) (Le.oslN rfl (by simp))) ?_
          refine RS.go ?_
          refine RT.goto rfl ?_
          refine RS.weak [(0, sq eI l0), (1, .int .i64 a1), (2, .int .i64 a2), (7, .osl 7 eI.w 0 (o7 ++ [(rd l0 x8)]).length (o7 ++ [(rd l0 x8)]).length), (8, .int .i64 x8)] [(7, bufE eI (o7 ++ [(rd l0 x8)]))] ⟨Le.eq (by first | rfl | simp), Le.eq (by first | rfl | simp), Le.eq (by first | rfl | simp), (by first | exact Le.oslN rfl (by first | rfl | simp) | exact Le.refl _ | exact Le.eq (by first | rfl | simp)), Le.eq (by first | rfl | simp), trivial⟩ ⟨⟨_, rfl, LeO.refl _⟩, trivial⟩ rfl (dom0 rfl) ?_
          exact ih.1 l0 a1 a2 x8 (o7 ++ [(rd l0 x8)]) 
      · refine RT.freeze 7 _ _ _ [(6, sq eI o7)] [] rfl rfl ⟨.inr ⟨_, rfl, by first | exact Nat.le_refl _ | simp, rfl⟩, trivial⟩ trivial rfl (dom0 rfl) ?_
        exact RT.done rfl rfl (Le.refl _) trivial rfl (dom0 rfl)
theorem pileref1_merged.ok (k : Nat) (l0 : List Int) (a1 : Int) (a2 : Int) (r : (List Int)) (h : pileref1_merged.f k l0 a1 a2 = some r) : Ct Tryd.prog B 70 [sq eI l0, .int .i64 a1, .int .i64 a2] (ofL []) (sq eI r) (ofL []) := by
  refine Ct.of (Y := (fam Tryd.f70 [4] [] [] (fun r : (List Int) => sq eI r) (fun r => []))) Tryd.func70 rfl Tryd.call70 rfl rfl ?_ r h
  unfold pileref1_merged.f
  refine RS.go ?_
  refine RT.goto rfl ?_
  refine RS.ghost 7 7 eI.w (rep eI []) rfl rfl ?_
  refine RS.weak [(0, sq eI l0), (1, .int .i64 a1), (2, .int .i64 a2), (7, .osl 7 eI.w 0 ([] : List Int).length ([] : List Int).length), (8, .int .i64 0)] [(7, bufE eI ([] : List Int))] ⟨Le.eq (by first | rfl | simp), Le.eq (by first | rfl | simp), Le.eq (by first | rfl | simp), (by first | exact Le.oslN rfl (by first | rfl | simp) | exact Le.refl _ | exact Le.eq (by first | rfl | simp)), Le.eq (by first | rfl | simp), trivial⟩ ⟨⟨_, rfl, LeO.refl _⟩, trivial⟩ rfl (dom0 rfl) ?_
  exact (pileref1_merged.loops k).2 l0 a1 a2 0 [] 
/-! ### slices_Max_int_int: function 71 -/
mutual
def slices_Max_int_int.l0 : Nat → List Int → Int → Int → Option (Int)
  | 0, _, _, _ => Option.none
  | k + 1, l0, x3, x4 => (if x4 < (l0.length : Int) then (if 0 ≤ x4 then (if x4 < (l0.length : Int) then slices_Max_int_int.l0 k l0 (mx x3 (rd l0 x4)) (wrap64 (x4 + 1)) else Option.none) else Option.none) else Option.some x3)
def slices_Max_int_int.j3 : Nat → List Int → Option (Int)
  | 0, _ => Option.none
  | k + 1, l0 => (if 0 < (l0.length : Int) then slices_Max_int_int.l0 k l0 (rd l0 0) 1 else Option.none)
end
def slices_Max_int_int.f (k : Nat) (l0 : List Int) : Option (Int) := (if (l0.length : Int) < 1 then Option.none else slices_Max_int_int.j3 k l0)
theorem slices_Max_int_int.loops : ∀ k, (∀ (l0 : List Int) (x3 : Int) (x4 : Int), RS (fam Tryd.f71 [3] [] [] (fun r : Int => .int .i64 r) (fun r => [])) (Func.head Tryd.f71 0) ⟨ofT [(0, sq eI l0), (3, .int .i64 x3), (4, .int .i64 x4)], ofL []⟩ (slices_Max_int_int.l0 k l0 x3 x4)) ∧ (∀ (l0 : List Int), RS (fam Tryd.f71 [3] [] [] (fun r : Int => .int .i64 r) (fun r => [])) (Func.reg Tryd.f71 3) ⟨ofT [(0, sq eI l0)], ofL []⟩ (slices_Max_int_int.j3 k l0))
  | 0 => ⟨by intro _ _ _; simp only [slices_Max_int_int.l0]; exact RS.none, by intro _; simp only [slices_Max_int_int.j3]; exact RS.none⟩
  | k + 1 => by
    have ih := slices_Max_int_int.loops k
    refine ⟨?_, ?_⟩
    · intro l0 x3 x4
      simp only [slices_Max_int_int.l0]
      refine RS.go ?_
      refine RT.br rfl (fun c4 => ?_) (fun c4 => ?_)
      · refine RT.br rfl (fun c2 => ?_) (fun c2 => RT.none)
        refine RT.br rfl (fun c3 => ?_) (fun c3 => RT.none)
        refine RT.goto rfl ?_
        refine RS.weak [(0, sq eI l0), (3, .int .i64 (mx x3 (rd l0 x4))), (4, .int .i64 (wrap64 (x4 + 1)))] [] ⟨Le.eq (by first | rfl | simp), Le.eq (by first | rfl | simp), Le.eq (by first | rfl | simp), trivial⟩ trivial rfl (dom0 rfl) ?_
        exact ih.1 l0 (mx x3 (rd l0 x4)) (wrap64 (x4 + 1)) 
      · exact RT.done rfl rfl (Le.refl _) trivial rfl (dom0 rfl)
    · intro l0
      simp only [slices_Max_int_int.j3]
      refine RS.region ?_
      refine RS.go ?_
      refine RT.brT rfl ?_
      refine RT.br rfl (fun c1 => ?_) (fun c1 => RT.none)
      refine RT.goto rfl ?_
      refine RS.weak [(0, sq eI l0), (3, .int .i64 (rd l0 0)), (4, .int .i64 1)] [] ⟨Le.eq (by first | rfl | simp), Le.eq (by first | rfl | simp), Le.eq (by first | rfl | simp), trivial⟩ trivial rfl (dom0 rfl) ?_
      exact ih.1 l0 (rd l0 0) 1 
theorem slices_Max_int_int.ok (k : Nat) (l0 : List Int) (r : Int) (h : slices_Max_int_int.f k l0 = some r) : Ct Tryd.prog B 71 [sq eI l0] (ofL []) (.int .i64 r) (ofL []) := by
  refine Ct.of (Y := (fam Tryd.f71 [3] [] [] (fun r : Int => .int .i64 r) (fun r => []))) Tryd.func71 rfl Tryd.call71 rfl rfl ?_ r h
  unfold slices_Max_int_int.f
  refine RS.go ?_
  refine RT.br rfl (fun c5 => ?_) (fun c5 => ?_)
  · exact RT.none
  · refine RT.goto rfl ?_
    refine RS.weak [(0, sq eI l0)] [] ⟨Le.eq (by first | rfl | simp), trivial⟩ trivial rfl (dom0 rfl) ?_
    exact (slices_Max_int_int.loops k).2 l0 
/-! ### pileref1_CleanedOf: function 21 -/
mutual
def pileref1_CleanedOf.l1 : Nat → Int → List Int → Option ((List Int) × Int)
  | 0, _, _ => Option.none
  | k + 1, a1, x0b => (if (x0b.length : Int) > 0 then (if 0 ≤ wrap64 ((x0b.length : Int) - 1) then (if wrap64 ((x0b.length : Int) - 1) < (x0b.length : Int) then (if (rd x0b (wrap64 ((x0b.length : Int) - 1))) < a1 then (if 0 ≤ mx 0 (wrap64 ((x0b.length : Int) - 2)) then (if mx 0 (wrap64 ((x0b.length : Int) - 2)) ≤ (x0b.length : Int) then pileref1_CleanedOf.l1 k a1 (x0b.take (mx 0 (wrap64 ((x0b.length : Int) - 2))).toNat) else Option.none) else Option.none) else (if (x0b.length : Int) = 0 then Option.some ([], 8) else ((pileref1_merged.f k x0b 0 a1).bind fun r24 => ((slices_Max_int_int.f k r24).bind fun r25 => (if r25 > 100000 then Option.some ([], 2) else Option.some (r24, 0)))))) else Option.none) else Option.none) else (if (x0b.length : Int) = 0 then Option.some ([], 8) else ((pileref1_merged.f k x0b 0 a1).bind fun r29 => ((slices_Max_int_int.f k r29).bind fun r30 => (if r30 > 100000 then Option.some ([], 2) else Option.some (r29, 0))))))
def pileref1_CleanedOf.l0 : Nat → Int → List Int → Option ((List Int) × Int)
  | 0, _, _ => Option.none
  | k + 1, a1, x0 => (if (x0.length : Int) > 0 then (if 0 < (x0.length : Int) then (if (rd x0 0) < a1 then (if 0 ≤ mn 2 (x0.length : Int) then (if mn 2 (x0.length : Int) ≤ (x0.length : Int) then pileref1_CleanedOf.l0 k a1 (x0.drop (mn 2 (x0.length : Int)).toNat) else Option.none) else Option.none) else pileref1_CleanedOf.l1 k a1 x0) else Option.none) else pileref1_CleanedOf.l1 k a1 x0)
end
def pileref1_CleanedOf.f (k : Nat) (l0 : List Int) (a1 : Int) : Option ((List Int) × Int) := ((pileref1_merged.f k l0 1 a1).bind fun r1 => pileref1_CleanedOf.l0 k a1 r1)
theorem pileref1_CleanedOf.loops : ∀ k, (∀ (a1 : Int) (x0b : List Int), RS (fam Tryd.f21 [] [] [] (fun r : (List Int) × Int => .tup [sq eI r.1, .int .i64 r.2]) (fun r => [])) (Func.head Tryd.f21 1) ⟨ofT [(0, sq eI x0b), (1, .int .i64 a1)], ofL []⟩ (pileref1_CleanedOf.l1 k a1 x0b)) ∧ (∀ (a1 : Int) (x0 : List Int), RS (fam Tryd.f21 [] [] [] (fun r : (List Int) × Int => .tup [sq eI r.1, .int .i64 r.2]) (fun r => [])) (Func.head Tryd.f21 0) ⟨ofT [(0, sq eI x0), (1, .int .i64 a1)], ofL []⟩ (pileref1_CleanedOf.l0 k a1 x0))
  | 0 => ⟨by intro _ _; simp only [pileref1_CleanedOf.l1]; exact RS.none, by intro _ _; simp only [pileref1_CleanedOf.l0]; exact RS.none⟩
  | k + 1 => by
    have ih := pileref1_CleanedOf.loops k
    refine ⟨?_, ?_⟩
    · intro a1 x0b
      simp only [pileref1_CleanedOf.l1]
      refine RS.go ?_
      refine RT.br rfl (fun c33 => ?_) (fun c33 => ?_)
      · refine RT.brT rfl ?_
        refine RT.brT rfl ?_
        refine RT.brT rfl ?_
        refine RT.brT rfl ?_
        refine RT.br rfl (fun c20 => ?_) (fun c20 => RT.none)
        refine RT.br rfl (fun c21 => ?_) (fun c21 => RT.none)
        refine RT.brT rfl ?_
        refine RT.brT rfl ?_
        refine RT.brT rfl ?_
        refine RT.brT rfl ?_
        refine RT.br rfl (fun c28 => ?_) (fun c28 => ?_)
        · refine RT.br rfl (fun c22 => ?_) (fun c22 => RT.none)
          refine RT.br rfl (fun c23 => ?_) (fun c23 => RT.none)
          refine RT.goto rfl ?_
          refine RS.slot 42 (sq eI (x0b.take (mx 0 (wrap64 ((x0b.length : Int) - 2))).toNat)) (Le.head (by first | omega | assumption) (by first | omega | assumption)) ?_
          refine RS.go ?_
          refine RT.goto rfl ?_
          refine RS.weak [(0, sq eI (x0b.take (mx 0 (wrap64 ((x0b.length : Int) - 2))).toNat)), (1, .int .i64 a1)] [] ⟨Le.eq (by first | rfl | simp), Le.eq (by first | rfl | simp), trivial⟩ trivial rfl (dom0 rfl) ?_
          exact ih.1 a1 (x0b.take (mx 0 (wrap64 ((x0b.length : Int) - 2))).toNat) 
        · refine RT.br rfl (fun c27 => ?_) (fun c27 => ?_)
          · exact RT.done rfl rfl (Le.tup (LeL.cons (Le.nil _ _) (LeL.cons (Le.refl _) (LeL.nil)))) trivial rfl (dom0 rfl)
          · refine RT.call0 rfl (fun _ h => pileref1_merged.ok k x0b 0 a1 _ h) (LeL.eq rfl) (fun _ => rfl) (fun r24 => ?_)
            refine RS.go ?_
            refine RT.call0 rfl (fun _ h => slices_Max_int_int.ok k r24 _ h) (LeL.eq rfl) (fun _ => rfl) (fun r25 => ?_)
            refine RS.go ?_
            refine RT.br rfl (fun c26 => ?_) (fun c26 => ?_)
            · exact RT.done rfl rfl (Le.tup (LeL.cons (Le.nil _ _) (LeL.cons (Le.refl _) (LeL.nil)))) trivial rfl (dom0 rfl)
            · exact RT.done rfl rfl (Le.tup (LeL.cons (Le.refl _) (LeL.cons (Le.refl _) (LeL.nil)))) trivial rfl (dom0 rfl)
      · refine RT.brF rfl ?_
        refine RT.brF rfl ?_
        refine RT.brF rfl ?_
        refine RT.brF rfl ?_
        refine RT.brF rfl ?_
        refine RT.brF rfl ?_
        refine RT.brF rfl ?_
        refine RT.brF rfl ?_
        refine RT.brF rfl ?_
        refine RT.br rfl (fun c32 => ?_) (fun c32 => ?_)
        · exact RT.done rfl rfl (Le.tup (LeL.cons (Le.nil _ _) (LeL.cons (Le.refl _) (LeL.nil)))) trivial rfl (dom0 rfl)
        · refine RT.call0 rfl (fun _ h => pileref1_merged.ok k x0b 0 a1 _ h) (LeL.eq rfl) (fun _ => rfl) (fun r29 => ?_)
          refine RS.go ?_
          refine RT.call0 rfl (fun _ h => slices_Max_int_int.ok k r29 _ h) (LeL.eq rfl) (fun _ => rfl) (fun r30 => ?_)
          refine RS.go ?_
          refine RT.br rfl (fun c31 => ?_) (fun c31 => ?_)
          · exact RT.done rfl rfl (Le.tup (LeL.cons (Le.nil _ _) (LeL.cons (Le.refl _) (LeL.nil)))) trivial rfl (dom0 rfl)
          · exact RT.done rfl rfl (Le.tup (LeL.cons (Le.refl _) (LeL.cons (Le.refl _) (LeL.nil)))) trivial rfl (dom0 rfl)
    · intro a1 x0
      simp only [pileref1_CleanedOf.l0]
      refine RS.go ?_
      refine RT.br rfl (fun c34 => ?_) (fun c34 => ?_)
      · refine RT.brT rfl ?_
        refine RT.brT rfl ?_
        refine RT.br rfl (fun c2 => ?_) (fun c2 => RT.none)
        refine RT.brT rfl ?_
        refine RT.brT rfl ?_
        refine RT.brT rfl ?_
        refine RT.brT rfl ?_
        refine RT.br rfl (fun c19 => ?_) (fun c19 => ?_)
        · refine RT.br rfl (fun c3 => ?_) (fun c3 => RT.none)
          refine RT.br rfl (fun c4 => ?_) (fun c4 => RT.none)
          refine RT.goto rfl ?_
          refine RS.slot 23 (sq eI (x0.drop (mn 2 (x0.length : Int)).toNat)) (Le.tail (by first | omega | assumption) (by first | omega | assumption)) ?_
          refine RS.go ?_
          refine RT.goto rfl ?_
          refine RS.weak [(0, sq eI (x0.drop (mn 2 (x0.length : Int)).toNat)), (1, .int .i64 a1)] [] ⟨Le.eq (by first | rfl | simp), Le.eq (by first | rfl | simp), trivial⟩ trivial rfl (dom0 rfl) ?_
          exact ih.2 a1 (x0.drop (mn 2 (x0.length : Int)).toNat) 
        · refine RT.goto rfl ?_
          refine RS.weak [(0, sq eI x0), (1, .int .i64 a1)] [] ⟨Le.eq (by first | rfl | simp), Le.eq (by first | rfl | simp), trivial⟩ trivial rfl (dom0 rfl) ?_
          exact ih.1 a1 x0 
      · refine RT.brF rfl ?_
        refine RT.brF rfl ?_
        refine RT.brF rfl ?_
        refine RT.brF rfl ?_
        refine RT.brF rfl ?_
        refine RT.brF rfl ?_
        refine RT.goto rfl ?_
        refine RS.weak [(0, sq eI x0), (1, .int .i64 a1)] [] ⟨Le.eq (by first | rfl | simp), Le.eq (by first | rfl | simp), trivial⟩ trivial rfl (dom0 rfl) ?_
        exact ih.1 a1 x0 
theorem pileref1_CleanedOf.ok (k : Nat) (l0 : List Int) (a1 : Int) (r : (List Int) × Int) (h : pileref1_CleanedOf.f k l0 a1 = some r) : Ct Tryd.prog B 21 [sq eI l0, .int .i64 a1] (ofL []) (.tup [sq eI r.1, .int .i64 r.2]) (ofL []) := by
  refine Ct.of (Y := (fam Tryd.f21 [] [] [] (fun r : (List Int) × Int => .tup [sq eI r.1, .int .i64 r.2]) (fun r => []))) Tryd.func21 rfl Tryd.call21 rfl rfl ?_ r h
  unfold pileref1_CleanedOf.f
  refine RS.go ?_
  refine RT.call0 rfl (fun _ h => pileref1_merged.ok k l0 1 a1 _ h) (LeL.eq rfl) (fun _ => rfl) (fun r1 => ?_)
  refine RS.go ?_
  refine RT.goto rfl ?_
  refine RS.weak [(0, sq eI r1), (1, .int .i64 a1)] [] ⟨Le.eq (by first | rfl | simp), Le.eq (by first | rfl | simp), trivial⟩ trivial rfl (dom0 rfl) ?_
  exact (pileref1_CleanedOf.loops k).2 a1 r1 
end Go.EV
