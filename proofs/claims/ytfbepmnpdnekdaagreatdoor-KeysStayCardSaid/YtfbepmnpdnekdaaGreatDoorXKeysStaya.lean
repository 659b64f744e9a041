/- Printed by a program of this session: a Lean function for each function that the law reaches, and that the code comes to it. -/
import Derived.Test.YtfbepmnpdnekdaaGreatDoorEvS
set_option linter.unusedVariables false
set_option linter.unusedSimpArgs false
namespace Go.EV
open Go Go.Proofs Go.RowKit
set_option maxHeartbeats 4000000
set_option maxRecDepth 100000
set_option linter.unusedVariables false
def str_0 : ByteArray := ⟨#[46, 45, 32, 45, 46, 46, 46, 32, 45, 46, 45, 46, 32, 45, 46, 46, 32, 46, 32, 46, 46, 45, 46, 32, 45, 45, 46, 32, 46, 46, 46, 46, 32, 46, 46, 32, 46, 45, 45, 45, 32, 45, 46, 45, 32, 46, 45, 46, 46, 32, 45, 45, 32, 45, 46, 32, 45, 45, 45, 32, 46, 45, 45, 46, 32, 45, 45, 46, 45, 32, 46, 45, 46, 32, 46, 46, 46, 32, 45, 32, 46, 46, 45, 32, 46, 46, 46, 45, 32, 46, 45, 45, 32, 45, 46, 46, 45, 32, 45, 46, 45, 45, 32, 45, 45, 46, 46, 32, 45, 45, 45, 45, 45, 32, 46, 45, 45, 45, 45, 32, 46, 46, 45, 45, 45, 32, 46, 46, 46, 45, 45, 32, 46, 46, 46, 46, 45, 32, 46, 46, 46, 46, 46, 32, 45, 46, 46, 46, 46, 32, 45, 45, 46, 46, 46, 32, 45, 45, 45, 46, 46, 32, 45, 45, 45, 45, 46, 32, 45, 46, 46, 45, 46, 32, 46, 46, 45, 45, 46, 46, 32, 45, 46, 46, 46, 45, 32, 46, 45, 46, 45, 46]⟩
def str_1 : ByteArray := ⟨#[97, 98, 99, 100, 101, 102, 103, 104, 105, 106, 107, 108, 109, 110, 111, 112, 113, 114, 115, 116, 117, 118, 119, 120, 121, 122, 48, 49, 50, 51, 52, 53, 54, 55, 56, 57, 47, 63, 61, 43]⟩
def str_2 : ByteArray := ⟨#[97, 32, 46, 45, 32, 98, 32, 45, 46, 46, 46, 32, 99, 32, 45, 46, 45, 46, 32, 100, 32, 45, 46, 46, 32, 101, 32, 46, 32, 102, 32, 46, 46, 45, 46, 32, 103, 32, 45, 45, 46, 32, 104, 32, 46, 46, 46, 46, 32, 105, 32, 46, 46, 32, 106, 32, 46, 45, 45, 45, 32, 107, 32, 45, 46, 45, 32, 108, 32, 46, 45, 46, 46, 32, 109, 32, 45, 45, 32, 110, 32, 45, 46, 32, 111, 32, 45, 45, 45, 32, 112, 32, 46, 45, 45, 46, 32, 113, 32, 45, 45, 46, 45, 32, 114, 32, 46, 45, 46, 32, 115, 32, 46, 46, 46, 32, 116, 32, 45, 32, 117, 32, 46, 46, 45, 32, 118, 32, 46, 46, 46, 45, 32, 119, 32, 46, 45, 45, 32, 120, 32, 45, 46, 46, 45, 32, 121, 32, 45, 46, 45, 45, 32, 122, 32, 45, 45, 46, 46, 32, 48, 32, 45, 45, 45, 45, 45, 32, 49, 32, 46, 45, 45, 45, 45, 32, 50, 32, 46, 46, 45, 45, 45, 32, 51, 32, 46, 46, 46, 45, 45, 32, 52, 32, 46, 46, 46, 46, 45, 32, 53, 32, 46, 46, 46, 46, 46, 32, 54, 32, 45, 46, 46, 46, 46, 32, 55, 32, 45, 45, 46, 46, 46, 32, 56, 32, 45, 45, 45, 46, 46, 32, 57, 32, 45, 45, 45, 45, 46, 32, 47, 32, 45, 46, 46, 45, 46, 32, 63, 32, 46, 46, 45, 45, 46, 46, 32, 61, 32, 45, 46, 46, 46, 45, 32, 43, 32, 46, 45, 46, 45, 46]⟩
def e_SS.c : (ByteArray × ByteArray) → Nat → AV
  | x, 0 => .str x.1
  | x, _ => .str x.2
def e_SS : Enc (ByteArray × ByteArray) := ⟨2, (ByteArray.empty, ByteArray.empty), e_SS.c⟩
def e_L.c : List ByteArray → Nat → AV
  | x, _ => sq eS x
def e_L : Enc (List ByteArray) := ⟨1, [], e_L.c⟩
/-! ### pilemake_Below: function 111 -/
def pilemake_Below.j6 : Nat → Int → Option (Int)
  | 0, _ => Option.none
  | k + 1, x0j6 => Option.some x0j6
def pilemake_Below.f (k : Nat) (a0 : Int) (a1 : Int) : Option (Int) := (if a1 < 1 then Option.some 0 else (if a1 = 0 then Option.none else (if Int.tmod a0 a1 < 0 then pilemake_Below.j6 k (wrap64 ((Int.tmod a0 a1) + a1)) else pilemake_Below.j6 k (Int.tmod a0 a1))))
theorem pilemake_Below.loops : ∀ k, (∀ (x0j6 : Int), RS (fam Tryz.f111 [6] [] [] (fun r : Int => .int .i64 r) (fun r => [])) (Func.reg Tryz.f111 6) ⟨ofT [(0, .int .i64 x0j6)], ofL []⟩ (pilemake_Below.j6 k x0j6))
  | 0 => by intro _; simp only [pilemake_Below.j6]; exact RS.none
  | k + 1 => by
    have ih := pilemake_Below.loops k
    · intro x0j6
      simp only [pilemake_Below.j6]
      refine RS.region ?_
      refine RS.go ?_
      exact RT.done rfl rfl (Le.refl _) trivial rfl (dom0 rfl)
theorem pilemake_Below.ok (k : Nat) (a0 : Int) (a1 : Int) (r : Int) (h : pilemake_Below.f k a0 a1 = some r) : Ct Tryz.prog B 111 [.int .i64 a0, .int .i64 a1] (ofL []) (.int .i64 r) (ofL []) := by
  refine Ct.of (Y := (fam Tryz.f111 [6] [] [] (fun r : Int => .int .i64 r) (fun r => []))) Tryz.func111 rfl Tryz.call111 rfl rfl ?_ r h
  unfold pilemake_Below.f
  refine RS.go ?_
  refine RT.br rfl (fun c3 => ?_) (fun c3 => ?_)
  · exact RT.done rfl rfl (Le.refl _) trivial rfl (dom0 rfl)
  · refine RT.br rfl (fun _ => RT.none) (fun c2 => ?_)
    refine RT.br rfl (fun c1 => ?_) (fun c1 => ?_)
    · refine RT.goto rfl ?_
      refine RS.weak [(0, .int .i64 (wrap64 ((Int.tmod a0 a1) + a1)))] [] ⟨Le.eq (by first | rfl | simp), trivial⟩ trivial rfl (dom0 rfl) ?_
      exact pilemake_Below.loops k (wrap64 ((Int.tmod a0 a1) + a1)) 
    · refine RT.goto rfl ?_
      refine RS.weak [(0, .int .i64 (Int.tmod a0 a1))] [] ⟨Le.eq (by first | rfl | simp), trivial⟩ trivial rfl (dom0 rfl) ?_
      exact pilemake_Below.loops k (Int.tmod a0 a1) 
/-! ### pilemake_Stream_Next: function 53 -/
def pilemake_Stream_Next.k0 : List DK := [⟨[48], [], [6], []⟩, ⟨[42, 47], [], [48], []⟩, ⟨[46], [], [47], []⟩, ⟨[45], [100000], [46], []⟩, ⟨[44], [100000], [45], []⟩, ⟨[43], [100000], [44], []⟩, ⟨[0], [], [43], []⟩, ⟨[41], [], [42], []⟩, ⟨[40], [100000], [41], []⟩, ⟨[39], [100000], [40], []⟩, ⟨[38], [100000], [39], []⟩, ⟨[0], [], [38], []⟩]
def pilemake_Stream_Next.k1 : List Nat := [0, 1, 3, 7, 15, 0, 32, 96, 224, 480, 1023, 2047]
def pilemake_Stream_Next.k2 : List DK := [⟨[37], [], [5], []⟩, ⟨[31, 36], [], [37], []⟩, ⟨[35], [], [36], []⟩, ⟨[34], [100000], [35], []⟩, ⟨[33], [100000], [34], []⟩, ⟨[32], [100000], [33], []⟩, ⟨[0], [], [32], []⟩, ⟨[30], [], [31], []⟩, ⟨[29], [100000], [30], []⟩, ⟨[28], [100000], [29], []⟩, ⟨[27], [100000], [28], []⟩, ⟨[0], [], [27], []⟩]
def pilemake_Stream_Next.f (k : Nat) (p0_0 : List Int) (p0_1 : Int) (a1 : Int) : Option (Int × (List Int) × Int) := (if (p0_0.length : Int) = 0 then ((pilemake_Below.f k (wrap64 ((wrap64 (p0_1 + 1)) * 7919)) a1).bind fun r1 => Option.some (r1, p0_0, wrap64 (p0_1 + 1))) else (if (p0_0.length : Int) = 0 then Option.none else (if (p0_0.length : Int) = 0 then Option.none else (if 0 ≤ Int.tmod (wrap64 ((wrap64 (p0_1 + 1)) - 1)) (p0_0.length : Int) then (if Int.tmod (wrap64 ((wrap64 (p0_1 + 1)) - 1)) (p0_0.length : Int) < (p0_0.length : Int) then ((pilemake_Below.f k (rd p0_0 (Int.tmod (wrap64 ((wrap64 (p0_1 + 1)) - 1)) (p0_0.length : Int))) 1073741824).bind fun r4 => ((pilemake_Below.f k (wrap64 (r4 + (wrap64 ((wrap64 (Int.tdiv (wrap64 ((wrap64 (p0_1 + 1)) - 1)) (p0_0.length : Int))) * (wrap64 (7919 + (Int.tmod (wrap64 ((wrap64 (p0_1 + 1)) - 1)) (p0_0.length : Int)))))))) a1).bind fun r5 => Option.some (r5, p0_0, wrap64 (p0_1 + 1)))) else Option.none) else Option.none))))
theorem pilemake_Stream_Next.ok (k : Nat) (p0_0 : List Int) (p0_1 : Int) (a1 : Int) (r : Int × (List Int) × Int) (h : pilemake_Stream_Next.f k p0_0 p0_1 a1 = some r) : Ct Tryz.prog B 53 [.ref 100000 0 0 0 2, .int .i64 a1] (ofL [(100000, .box [sq eI p0_0, .int .i64 p0_1])]) (.int .i64 r.1) (ofL [(100000, .box [sq eI r.2.1, .int .i64 r.2.2])]) := by
  refine Ct.of (Y := (fam Tryz.f53 [] [] [(100000, .box [sq eI p0_0, .int .i64 p0_1])] (fun r : Int × (List Int) × Int => .int .i64 r.1) (fun r => [(100000, .box [sq eI r.2.1, .int .i64 r.2.2])]))) Tryz.func53 rfl Tryz.call53 rfl rfl ?_ r h
  unfold pilemake_Stream_Next.f
  refine RS.go ?_
  refine RT.br rfl (fun c8 => ?_) (fun c8 => ?_)
  · refine RT.call0 rfl (fun _ h => pilemake_Below.ok k (wrap64 ((wrap64 (p0_1 + 1)) * 7919)) a1 _ h) (LeL.eq rfl) (fun _ => rfl) (fun r1 => ?_)
    refine RS.go ?_
    exact RT.done rfl rfl (Le.refl _) ⟨⟨_, rfl, LeO.refl _⟩, trivial⟩ rfl (dom_of rfl)
  · refine RT.goto rfl ?_
    refine RS.draw rfl ?_
    refine RD.br rfl (fun _ => RD.none) (fun c7 => ?_)
    refine RD.fin pilemake_Stream_Next.k2 pilemake_Stream_Next.k1 rfl rfl (by decide +kernel) ?_
    refine RS.go ?_
    refine RT.goto rfl ?_
    refine RS.draw rfl ?_
    refine RD.br rfl (fun _ => RD.none) (fun c6 => ?_)
    refine RD.fin pilemake_Stream_Next.k0 pilemake_Stream_Next.k1 rfl rfl (by decide +kernel) ?_
    refine RS.go ?_
    refine RT.br rfl (fun c2 => ?_) (fun c2 => RT.none)
    refine RT.br rfl (fun c3 => ?_) (fun c3 => RT.none)
    refine RT.call0 rfl (fun _ h => pilemake_Below.ok k (rd p0_0 (Int.tmod (wrap64 ((wrap64 (p0_1 + 1)) - 1)) (p0_0.length : Int))) 1073741824 _ h) (LeL.eq rfl) (fun _ => rfl) (fun r4 => ?_)
    refine RS.go ?_
    refine RT.call0 rfl (fun _ h => pilemake_Below.ok k (wrap64 (r4 + (wrap64 ((wrap64 (Int.tdiv (wrap64 ((wrap64 (p0_1 + 1)) - 1)) (p0_0.length : Int))) * (wrap64 (7919 + (Int.tmod (wrap64 ((wrap64 (p0_1 + 1)) - 1)) (p0_0.length : Int)))))))) a1 _ h) (LeL.eq rfl) (fun _ => rfl) (fun r5 => ?_)
    refine RS.go ?_
    exact RT.done rfl rfl (Le.refl _) ⟨⟨_, rfl, LeO.refl _⟩, trivial⟩ rfl (dom_of rfl)
/-! ### pilemake_Stream_Pick: function 9 -/
def pilemake_Stream_Pick.f (k : Nat) (p0_0 : List Int) (p0_1 : Int) (l1 : List Int) : Option (Int × (List Int) × Int) := ((pilemake_Stream_Next.f k p0_0 p0_1 (l1.length : Int)).bind fun r1 => (if 0 ≤ r1.1 then (if r1.1 < (l1.length : Int) then Option.some ((rd l1 r1.1), r1.2.1, r1.2.2) else Option.none) else Option.none))
theorem pilemake_Stream_Pick.ok (k : Nat) (p0_0 : List Int) (p0_1 : Int) (l1 : List Int) (r : Int × (List Int) × Int) (h : pilemake_Stream_Pick.f k p0_0 p0_1 l1 = some r) : Ct Tryz.prog B 9 [.ref 100000 0 0 0 2, sq eI l1] (ofL [(100000, .box [sq eI p0_0, .int .i64 p0_1])]) (.int .i64 r.1) (ofL [(100000, .box [sq eI r.2.1, .int .i64 r.2.2])]) := by
  refine Ct.of (Y := (fam Tryz.f9 [] [] [(100000, .box [sq eI p0_0, .int .i64 p0_1])] (fun r : Int × (List Int) × Int => .int .i64 r.1) (fun r => [(100000, .box [sq eI r.2.1, .int .i64 r.2.2])]))) Tryz.func9 rfl Tryz.call9 rfl rfl ?_ r h
  unfold pilemake_Stream_Pick.f
  refine RS.go ?_
  refine RT.call rfl (fun _ h => pilemake_Stream_Next.ok k p0_0 p0_1 (l1.length : Int) _ h) (fun i => bif Nat.beq i 100000 then 100000 else i) (LeL.eq rfl) ⟨⟨_, rfl, LeO.refl _⟩, trivial⟩ (fun _ => rfl) (fun r1 => ?_)
  refine RS.go ?_
  refine RT.br rfl (fun c2 => ?_) (fun c2 => RT.none)
  refine RT.br rfl (fun c3 => ?_) (fun c3 => RT.none)
  exact RT.done rfl rfl (Le.refl _) ⟨⟨_, rfl, LeO.refl _⟩, trivial⟩ rfl (dom_of rfl)
/-! ### pilemake_Stream_Some: function 30 -/
def pilemake_Stream_Some.f (k : Nat) (p0_0 : List Int) (p0_1 : Int) (l1 : List ByteArray) : Option (ByteArray × (List Int) × Int) := ((pilemake_Stream_Next.f k p0_0 p0_1 (l1.length : Int)).bind fun r1 => (if 0 ≤ r1.1 then (if r1.1 < (l1.length : Int) then Option.some ((rdE eS l1 r1.1), r1.2.1, r1.2.2) else Option.none) else Option.none))
theorem pilemake_Stream_Some.ok (k : Nat) (p0_0 : List Int) (p0_1 : Int) (l1 : List ByteArray) (r : ByteArray × (List Int) × Int) (h : pilemake_Stream_Some.f k p0_0 p0_1 l1 = some r) : Ct Tryz.prog B 30 [.ref 100000 0 0 0 2, sq eS l1] (ofL [(100000, .box [sq eI p0_0, .int .i64 p0_1])]) (.str r.1) (ofL [(100000, .box [sq eI r.2.1, .int .i64 r.2.2])]) := by
  refine Ct.of (Y := (fam Tryz.f30 [] [] [(100000, .box [sq eI p0_0, .int .i64 p0_1])] (fun r : ByteArray × (List Int) × Int => .str r.1) (fun r => [(100000, .box [sq eI r.2.1, .int .i64 r.2.2])]))) Tryz.func30 rfl Tryz.call30 rfl rfl ?_ r h
  unfold pilemake_Stream_Some.f
  refine RS.go ?_
  refine RT.call rfl (fun _ h => pilemake_Stream_Next.ok k p0_0 p0_1 (l1.length : Int) _ h) (fun i => bif Nat.beq i 100000 then 100000 else i) (LeL.eq rfl) ⟨⟨_, rfl, LeO.refl _⟩, trivial⟩ (fun _ => rfl) (fun r1 => ?_)
  refine RS.go ?_
  refine RT.br rfl (fun c2 => ?_) (fun c2 => RT.none)
  refine RT.br rfl (fun c3 => ?_) (fun c3 => RT.none)
  exact RT.done rfl rfl (Le.refl _) ⟨⟨_, rfl, LeO.refl _⟩, trivial⟩ rfl (dom_of rfl)
def strings_Split.f (a0 : ByteArray) (a1 : ByteArray) : Option (List ByteArray) := if a0.size < 4294967281 ∧ 1 ≤ a1.size then some (Lib.splitB a1 0 (Lib.countB a0 a1) a0) else none
theorem strings_Split.ok (a0 : ByteArray) (a1 : ByteArray) (r : List ByteArray) (h : strings_Split.f a0 a1 = some r) : Ct Tryz.prog B 77 [.str a0, .str a1] (ofL []) (sq eS r) (ofL []) := by
  unfold strings_Split.f at h
  split at h
  case isFalse => cases h
  case isTrue c =>
  cases h
  refine Ct.libS Tryz.call77 rfl fun g w hb => ?_
  obtain ⟨m, hm⟩ := hbML hb
  refine (Tryz.strings_Split a0 a1 m w c.1 hm c.2).mono fun e w' ⟨he, hw⟩ => ⟨_, he, ?_⟩
  subst hw
  have hl : (Lib.splitB a1 0 (Lib.countB a0 a1) a0).length = Lib.countB a0 a1 + 1 := Lib.splitB_all a1 c.2 0 _ a0 rfl
  exact newS hl

/-! ### pileref1_CodesOf: function 23 -/
def pileref1_CodesOf.l0 : Nat → List ByteArray → Int → Int → List (ByteArray × ByteArray) → Option ((List (ByteArray × ByteArray)))
  | 0, _, _, _, _ => Option.none
  | k + 1, x4, x5, x6, o1 => (if x6 < x5 then (if 0 ≤ x6 then (if x6 < (x4.length : Int) then (if 0 ≤ wrap64 (x6 + 1) then (if wrap64 (x6 + 1) ≤ (str_1.size : Int) then (if 0 ≤ x6 then (if x6 ≤ wrap64 (x6 + 1) then (if o1.length + [(str_1.extract (x6).toNat (wrap64 (x6 + 1)).toNat, (rdE eS x4 x6))].length ≤ 549755813888 then pileref1_CodesOf.l0 k x4 x5 (wrap64 (x6 + 1)) (o1 ++ [(str_1.extract (x6).toNat (wrap64 (x6 + 1)).toNat, (rdE eS x4 x6))]) else Option.none) else Option.none) else Option.none) else Option.none) else Option.none) else Option.none) else Option.none) else Option.some o1)
def pileref1_CodesOf.f (k : Nat) : Option ((List (ByteArray × ByteArray))) := ((strings_Split.f str_0 (⟨#[32]⟩ : ByteArray)).bind fun r1 => pileref1_CodesOf.l0 k r1 (r1.length : Int) 0 [])
theorem pileref1_CodesOf.loops : ∀ k, (∀ (x4 : List ByteArray) (x5 : Int) (x6 : Int) (o1 : List (ByteArray × ByteArray)), RS (fam Tryz.f23 [] [] [] (fun r : (List (ByteArray × ByteArray)) => sq e_SS r) (fun r => [])) (Func.head Tryz.f23 0) ⟨ofT [(1, .osl 1 e_SS.w 0 o1.length o1.length), (4, sq eS x4), (5, .int .i64 x5), (6, .int .i64 x6)], ofL [(1, bufE e_SS o1)]⟩ (pileref1_CodesOf.l0 k x4 x5 x6 o1))
  | 0 => by intro _ _ _ _; simp only [pileref1_CodesOf.l0]; exact RS.none
  | k + 1 => by
    have ih := pileref1_CodesOf.loops k
    · intro x4 x5 x6 o1
      simp only [pileref1_CodesOf.l0]
      refine RS.go ?_
      refine RT.br rfl (fun c9 => ?_) (fun c9 => ?_)
      · refine RT.br rfl (fun c2 => ?_) (fun c2 => RT.none)
        refine RT.br rfl (fun c3 => ?_) (fun c3 => RT.none)
        refine RT.br rfl (fun c4 => ?_) (fun c4 => RT.none)
        refine RT.br rfl (fun c5 => ?_) (fun c5 => RT.none)
        refine RT.br rfl (fun c6 => ?_) (fun c6 => RT.none)
        refine RT.br rfl (fun c7 => ?_) (fun c7 => RT.none)
        refine RT.goto rfl ?_
        refine RS.slot 18 (sq e_SS [(str_1.extract (x6).toNat (wrap64 (x6 + 1)).toNat, (rdE eS x4 x6))]) (Le.lit (E := e_SS) (l := [(str_1.extract (x6).toNat (wrap64 (x6 + 1)).toNat, (rdE eS x4 x6))]) (cells_of rfl)) ?_
        refine RS.go ?_
        refine RT.req rfl ⟨by first | rfl | simp, by first | exact Nat.le_refl _ | simp⟩ ?_
        refine RT.not rfl (by simp <;> omega) ?_
        refine RT.br rfl (fun c8 => ?_) (fun _ => RT.none)
        refine RT.goto rfl ?_
        refine RS.obj 1 (bufE e_SS (o1 ++ [(str_1.extract (x6).toNat (wrap64 (x6 + 1)).toNat, (rdE eS x4 x6))])) ⟨_, rfl, LeO.app (l := o1) (m := [(str_1.extract (x6).toNat (wrap64 (x6 + 1)).toNat, (rdE eS x4 x6))]) fun _ _ _ _ => rfl⟩ ?_
        refine RS.slot 19 (.osl 1 e_SS.w 0 (o1 ++ [(str_1.extract (x6).toNat (wrap64 (x6 + 1)).toNat, (rdE eS x4 x6))]).length (o1 ++ [(str_1.extract (x6).toNat (wrap64 (x6 + 1)).toNat, (rdE eS x4 x6))]).length) (by first | exact Le.oslN rfl (by simp) | exact Le.trans (y := .osl 1 e_SS.w 0 (o1.length + [(str_1.extract (x6).toNat (wrap64 (x6 + 1)).toNat, (rdE eS x4 x6))].length) (o1.length + [(str_1.extract (x6).toNat (wrap64 (x6 + 1)).toNat, (rdE eS x4 x6))].length)) (Le.refl _) (Le.oslN rfl (by simp))) ?_
        refine RS.go ?_
        refine RT.goto rfl ?_
        refine RS.weak [(1, .osl 1 e_SS.w 0 (o1 ++ [(str_1.extract (x6).toNat (wrap64 (x6 + 1)).toNat, (rdE eS x4 x6))]).length (o1 ++ [(str_1.extract (x6).toNat (wrap64 (x6 + 1)).toNat, (rdE eS x4 x6))]).length), (4, sq eS x4), (5, .int .i64 x5), (6, .int .i64 (wrap64 (x6 + 1)))] [(1, bufE e_SS (o1 ++ [(str_1.extract (x6).toNat (wrap64 (x6 + 1)).toNat, (rdE eS x4 x6))]))] ⟨(by first | exact Le.oslN rfl (by first | rfl | simp) | exact Le.refl _ | exact Le.eq (by first | rfl | simp)), Le.eq (by first | rfl | simp), Le.eq (by first | rfl | simp), Le.eq (by first | rfl | simp), trivial⟩ ⟨⟨_, rfl, LeO.refl _⟩, trivial⟩ rfl (dom0 rfl) ?_
        exact ih x4 x5 (wrap64 (x6 + 1)) (o1 ++ [(str_1.extract (x6).toNat (wrap64 (x6 + 1)).toNat, (rdE eS x4 x6))]) 
      · refine RT.freeze 1 _ _ _ [(0, sq e_SS o1)] [] rfl rfl ⟨.inr ⟨_, rfl, by first | exact Nat.le_refl _ | simp, rfl⟩, trivial⟩ trivial rfl (dom0 rfl) ?_
        exact RT.done rfl rfl (Le.refl _) trivial rfl (dom0 rfl)
theorem pileref1_CodesOf.ok (k : Nat) (r : (List (ByteArray × ByteArray))) (h : pileref1_CodesOf.f k  = some r) : Ct Tryz.prog B 23 [] (ofL []) (sq e_SS r) (ofL []) := by
  refine Ct.of (Y := (fam Tryz.f23 [] [] [] (fun r : (List (ByteArray × ByteArray)) => sq e_SS r) (fun r => []))) Tryz.func23 rfl Tryz.call23 rfl rfl ?_ r h
  unfold pileref1_CodesOf.f
  refine RS.go ?_
  refine RT.call0 rfl (fun _ h => strings_Split.ok str_0 (⟨#[32]⟩ : ByteArray) _ h) (LeL.eq rfl) (fun _ => rfl) (fun r1 => ?_)
  refine RS.go ?_
  refine RT.goto rfl ?_
  refine RS.ghost 1 1 e_SS.w (rep e_SS []) rfl rfl ?_
  refine RS.weak [(1, .osl 1 e_SS.w 0 ([] : List (ByteArray × ByteArray)).length ([] : List (ByteArray × ByteArray)).length), (4, sq eS r1), (5, .int .i64 (r1.length : Int)), (6, .int .i64 0)] [(1, bufE e_SS ([] : List (ByteArray × ByteArray)))] ⟨(by first | exact Le.oslN rfl (by first | rfl | simp) | exact Le.refl _ | exact Le.eq (by first | rfl | simp)), Le.eq (by first | rfl | simp), Le.eq (by first | rfl | simp), Le.eq (by first | rfl | simp), trivial⟩ ⟨⟨_, rfl, LeO.refl _⟩, trivial⟩ rfl (dom0 rfl) ?_
  exact pileref1_CodesOf.loops k r1 (r1.length : Int) 0 [] 
def strings_IndexByte.f (a0 : ByteArray) (a1 : Int) : Option (Int) := some (Lib.indexByte a0.data.toList a1.toNat.toUInt8)
theorem strings_IndexByte.ok (a0 : ByteArray) (a1 : Int) (r : Int) (h : strings_IndexByte.f a0 a1 = some r) : Ct Tryz.prog B 100 [.str a0, .int .u8 a1] (ofL []) (.int .i64 r) (ofL []) := by
  unfold strings_IndexByte.f at h
  cases h
  refine Ct.lib Tryz.call100 rfl rfl fun g w hb => (Tryz.strings_IndexByte a0 a1 w).mono fun e w' ⟨he, hw⟩ => ⟨he, hw ▸ Below.refl _ _⟩

/-! ### pileref1_codeOf: function 102 -/
def pileref1_codeOf.f (k : Nat) (a0 : Int) : Option (ByteArray) := ((pileref1_CodesOf.f k ).bind fun r1 => ((strings_IndexByte.f str_1 a0).bind fun r2 => (if 0 ≤ r2 then (if r2 < (r1.length : Int) then Option.some ((rdE e_SS r1 r2).2) else Option.none) else Option.none)))
theorem pileref1_codeOf.ok (k : Nat) (a0 : Int) (r : ByteArray) (h : pileref1_codeOf.f k a0 = some r) : Ct Tryz.prog B 102 [.int .u8 a0] (ofL []) (.str r) (ofL []) := by
  refine Ct.of (Y := (fam Tryz.f102 [] [] [] (fun r : ByteArray => .str r) (fun r => []))) Tryz.func102 rfl Tryz.call102 rfl rfl ?_ r h
  unfold pileref1_codeOf.f
  refine RS.go ?_
  refine RT.call0 rfl (fun _ h => pileref1_CodesOf.ok k  _ h) (LeL.eq rfl) (fun _ => rfl) (fun r1 => ?_)
  refine RS.go ?_
  refine RT.call0 rfl (fun _ h => strings_IndexByte.ok str_1 a0 _ h) (LeL.eq rfl) (fun _ => rfl) (fun r2 => ?_)
  refine RS.go ?_
  refine RT.br rfl (fun c3 => ?_) (fun c3 => RT.none)
  refine RT.br rfl (fun c4 => ?_) (fun c4 => RT.none)
  exact RT.done rfl rfl (Le.refl _) trivial rfl (dom0 rfl)
/-! ### pileref1_KeyedOf: function 68 -/
mutual
def pileref1_KeyedOf.j16 : Nat → ByteArray → Int → Int → Int → ByteArray → Nat → List Int → Option ((List Int))
  | 0, _, _, _, _, _, _, _ => Option.none
  | k + 1, a0, a1, a2, x14, w27b, o27b, o7j16 => pileref1_KeyedOf.l1 k a0 a1 a2 x14 a1 o7j16 w27b (o27b + (Utf8.decode w27b o27b).2)
def pileref1_KeyedOf.j13 : Nat → ByteArray → Int → Int → Int → ByteArray → Nat → List Int → Option ((List Int))
  | 0, _, _, _, _, _, _, _ => Option.none
  | k + 1, a0, a1, a2, x14, w27b, o27b, o7j13 => (if ((Utf8.decode w27b o27b).1 : Int) = 46 then (if o7j13.length + 1 ≤ 549755813888 then pileref1_KeyedOf.j16 k a0 a1 a2 x14 w27b o27b (o7j13 ++ [a1]) else Option.none) else (if o7j13.length + 1 ≤ 549755813888 then pileref1_KeyedOf.j16 k a0 a1 a2 x14 w27b o27b (o7j13 ++ [wrap64 (3 * a1)]) else Option.none))
def pileref1_KeyedOf.l1 : Nat → ByteArray → Int → Int → Int → Int → List Int → ByteArray → Nat → Option ((List Int))
  | 0, _, _, _, _, _, _, _, _ => Option.none
  | k + 1, a0, a1, a2, x14, x8b, o7b, w27b, o27b => (if o27b < w27b.size then (if (o7b.length : Int) > 0 then (if o7b.length + 1 ≤ 549755813888 then pileref1_KeyedOf.j13 k a0 a1 a2 x14 w27b o27b (o7b ++ [x8b]) else Option.none) else pileref1_KeyedOf.j13 k a0 a1 a2 x14 w27b o27b o7b) else pileref1_KeyedOf.l0 k a0 a1 a2 (wrap64 (3 * a2)) (wrap64 (x14 + 1)) o7b)
def pileref1_KeyedOf.l0 : Nat → ByteArray → Int → Int → Int → Int → List Int → Option ((List Int))
  | 0, _, _, _, _, _, _ => Option.none
  | k + 1, a0, a1, a2, x8, x14, o7 => (if x14 < (a0.size : Int) then (if 0 ≤ x14 then (if x14 < (a0.size : Int) then (if bt a0 x14 = 32 then pileref1_KeyedOf.l0 k a0 a1 a2 (wrap64 (7 * a2)) (wrap64 (x14 + 1)) o7 else (if 0 ≤ x14 then (if x14 < (a0.size : Int) then ((pileref1_codeOf.f k (bt a0 x14)).bind fun r5 => pileref1_KeyedOf.l1 k a0 a1 a2 x14 x8 o7 r5 0) else Option.none) else Option.none)) else Option.none) else Option.none) else Option.some o7)
end
def pileref1_KeyedOf.f (k : Nat) (a0 : ByteArray) (a1 : Int) (a2 : Int) : Option ((List Int)) := pileref1_KeyedOf.l0 k a0 a1 a2 0 0 []
theorem pileref1_KeyedOf.loops : ∀ k, (∀ (a0 : ByteArray) (a1 : Int) (a2 : Int) (x14 : Int) (w27b : ByteArray) (o27b : Nat) (o7j16 : List Int), RS (fam Tryz.f68 [13, 16] [] [] (fun r : (List Int) => .osl 7 eI.w 0 r.length r.length) (fun r => [(7, bufE eI r)])) (Func.reg Tryz.f68 16) ⟨ofT [(0, .str a0), (1, .int .i64 a1), (2, .int .i64 a2), (7, .osl 7 eI.w 0 o7j16.length o7j16.length), (13, .int .i64 (a0.size : Int)), (14, .int .i64 x14), (27, .ref 27 0 0 0 0)], ofL [(7, bufE eI o7j16), (27, .it w27b (o27b + (Utf8.decode w27b o27b).2))]⟩ (pileref1_KeyedOf.j16 k a0 a1 a2 x14 w27b o27b o7j16)) ∧ (∀ (a0 : ByteArray) (a1 : Int) (a2 : Int) (x14 : Int) (w27b : ByteArray) (o27b : Nat) (o7j13 : List Int), RS (fam Tryz.f68 [13, 16] [] [] (fun r : (List Int) => .osl 7 eI.w 0 r.length r.length) (fun r => [(7, bufE eI r)])) (Func.reg Tryz.f68 13) ⟨ofT [(0, .str a0), (1, .int .i64 a1), (2, .int .i64 a2), (7, .osl 7 eI.w 0 o7j13.length o7j13.length), (11, .int .i32 ((Utf8.decode w27b o27b).1 : Int)), (13, .int .i64 (a0.size : Int)), (14, .int .i64 x14), (27, .ref 27 0 0 0 0)], ofL [(7, bufE eI o7j13), (27, .it w27b (o27b + (Utf8.decode w27b o27b).2))]⟩ (pileref1_KeyedOf.j13 k a0 a1 a2 x14 w27b o27b o7j13)) ∧ (∀ (a0 : ByteArray) (a1 : Int) (a2 : Int) (x14 : Int) (x8b : Int) (o7b : List Int) (w27b : ByteArray) (o27b : Nat), RS (fam Tryz.f68 [13, 16] [] [] (fun r : (List Int) => .osl 7 eI.w 0 r.length r.length) (fun r => [(7, bufE eI r)])) (Func.head Tryz.f68 1) ⟨ofT [(0, .str a0), (1, .int .i64 a1), (2, .int .i64 a2), (7, .osl 7 eI.w 0 o7b.length o7b.length), (8, .int .i64 x8b), (13, .int .i64 (a0.size : Int)), (14, .int .i64 x14), (27, .ref 27 0 0 0 0)], ofL [(7, bufE eI o7b), (27, .it w27b o27b)]⟩ (pileref1_KeyedOf.l1 k a0 a1 a2 x14 x8b o7b w27b o27b)) ∧ (∀ (a0 : ByteArray) (a1 : Int) (a2 : Int) (x8 : Int) (x14 : Int) (o7 : List Int), RS (fam Tryz.f68 [13, 16] [] [] (fun r : (List Int) => .osl 7 eI.w 0 r.length r.length) (fun r => [(7, bufE eI r)])) (Func.head Tryz.f68 0) ⟨ofT [(0, .str a0), (1, .int .i64 a1), (2, .int .i64 a2), (7, .osl 7 eI.w 0 o7.length o7.length), (8, .int .i64 x8), (13, .int .i64 (a0.size : Int)), (14, .int .i64 x14)], ofL [(7, bufE eI o7)]⟩ (pileref1_KeyedOf.l0 k a0 a1 a2 x8 x14 o7))
  | 0 => ⟨by intro _ _ _ _ _ _ _; simp only [pileref1_KeyedOf.j16]; exact RS.none, by intro _ _ _ _ _ _ _; simp only [pileref1_KeyedOf.j13]; exact RS.none, by intro _ _ _ _ _ _ _ _; simp only [pileref1_KeyedOf.l1]; exact RS.none, by intro _ _ _ _ _ _; simp only [pileref1_KeyedOf.l0]; exact RS.none⟩
  | k + 1 => by
    have ih := pileref1_KeyedOf.loops k
    refine ⟨?_, ?_, ?_, ?_⟩
    · intro a0 a1 a2 x14 w27b o27b o7j16
      simp only [pileref1_KeyedOf.j16]
      refine RS.region ?_
      refine RS.go ?_
      refine RT.goto rfl ?_
      refine RS.weak [(0, .str a0), (1, .int .i64 a1), (2, .int .i64 a2), (7, .osl 7 eI.w 0 o7j16.length o7j16.length), (8, .int .i64 a1), (13, .int .i64 (a0.size : Int)), (14, .int .i64 x14), (27, .ref 27 0 0 0 0)] [(7, bufE eI o7j16), (27, .it w27b (o27b + (Utf8.decode w27b o27b).2))] ⟨Le.eq (by first | rfl | simp), Le.eq (by first | rfl | simp), Le.eq (by first | rfl | simp), (by first | exact Le.oslN rfl (by first | rfl | simp) | exact Le.refl _ | exact Le.eq (by first | rfl | simp)), Le.eq (by first | rfl | simp), Le.eq (by first | rfl | simp), Le.eq (by first | rfl | simp), Le.eq (by first | rfl | simp), trivial⟩ ⟨⟨_, rfl, LeO.refl _⟩, ⟨_, rfl, LeO.refl _⟩, trivial⟩ rfl (dom0 rfl) ?_
      exact ih.2.2.1 a0 a1 a2 x14 a1 o7j16 w27b (o27b + (Utf8.decode w27b o27b).2) 
    · intro a0 a1 a2 x14 w27b o27b o7j13
      simp only [pileref1_KeyedOf.j13]
      refine RS.region ?_
      refine RS.go ?_
      refine RT.br rfl (fun c8 => ?_) (fun c8 => ?_)
      · refine RT.goto rfl ?_
        refine RS.slot 42 (sq eI [a1]) (Le.lit (E := eI) (l := [a1]) (cells_of rfl)) ?_
        refine RS.go ?_
        refine RT.req rfl ⟨by first | rfl | simp, by first | exact Nat.le_refl _ | simp⟩ ?_
        refine RT.not rfl (by simp <;> omega) ?_
        refine RT.br rfl (fun c6 => ?_) (fun _ => RT.none)
        refine RT.goto rfl ?_
        refine RS.obj 7 (bufE eI (o7j13 ++ [a1])) ⟨_, rfl, LeO.app (l := o7j13) (m := [a1]) fun _ _ _ _ => rfl⟩ ?_
        refine RS.slot 43 (.osl 7 eI.w 0 (o7j13 ++ [a1]).length (o7j13 ++ [a1]).length) (by first | exact Le.oslN rfl (by simp) | exact Le.trans (y := .osl 7 eI.w 0 (o7j13.length + 1) (o7j13.length + 1)) (Le.refl _) (Le.oslN rfl (by simp))) ?_
        refine RS.go ?_
        refine RT.goto rfl ?_
        refine RS.weak [(0, .str a0), (1, .int .i64 a1), (2, .int .i64 a2), (7, .osl 7 eI.w 0 (o7j13 ++ [a1]).length (o7j13 ++ [a1]).length), (13, .int .i64 (a0.size : Int)), (14, .int .i64 x14), (27, .ref 27 0 0 0 0)] [(7, bufE eI (o7j13 ++ [a1])), (27, .it w27b (o27b + (Utf8.decode w27b o27b).2))] ⟨Le.eq (by first | rfl | simp), Le.eq (by first | rfl | simp), Le.eq (by first | rfl | simp), (by first | exact Le.oslN rfl (by first | rfl | simp) | exact Le.refl _ | exact Le.eq (by first | rfl | simp)), Le.eq (by first | rfl | simp), Le.eq (by first | rfl | simp), Le.eq (by first | rfl | simp), trivial⟩ ⟨⟨_, rfl, LeO.refl _⟩, ⟨_, rfl, LeO.refl _⟩, trivial⟩ rfl (dom0 rfl) ?_
        exact ih.1 a0 a1 a2 x14 w27b o27b (o7j13 ++ [a1]) 
      · refine RT.goto rfl ?_
        refine RS.slot 47 (sq eI [wrap64 (3 * a1)]) (Le.lit (E := eI) (l := [wrap64 (3 * a1)]) (cells_of rfl)) ?_
        refine RS.go ?_
        refine RT.req rfl ⟨by first | rfl | simp, by first | exact Nat.le_refl _ | simp⟩ ?_
        refine RT.not rfl (by simp <;> omega) ?_
        refine RT.br rfl (fun c7 => ?_) (fun _ => RT.none)
        refine RT.goto rfl ?_
        refine RS.obj 7 (bufE eI (o7j13 ++ [wrap64 (3 * a1)])) ⟨_, rfl, LeO.app (l := o7j13) (m := [wrap64 (3 * a1)]) fun _ _ _ _ => rfl⟩ ?_
        refine RS.slot 48 (.osl 7 eI.w 0 (o7j13 ++ [wrap64 (3 * a1)]).length (o7j13 ++ [wrap64 (3 * a1)]).length) (by first | exact Le.oslN rfl (by simp) | exact Le.trans (y := .osl 7 eI.w 0 (o7j13.length + 1) (o7j13.length + 1)) (Le.refl _) (Le.oslN rfl (by simp))) ?_
        refine RS.go ?_
        refine RT.goto rfl ?_
        refine RS.weak [(0, .str a0), (1, .int .i64 a1), (2, .int .i64 a2), (7, .osl 7 eI.w 0 (o7j13 ++ [wrap64 (3 * a1)]).length (o7j13 ++ [wrap64 (3 * a1)]).length), (13, .int .i64 (a0.size : Int)), (14, .int .i64 x14), (27, .ref 27 0 0 0 0)] [(7, bufE eI (o7j13 ++ [wrap64 (3 * a1)])), (27, .it w27b (o27b + (Utf8.decode w27b o27b).2))] ⟨Le.eq (by first | rfl | simp), Le.eq (by first | rfl | simp), Le.eq (by first | rfl | simp), (by first | exact Le.oslN rfl (by first | rfl | simp) | exact Le.refl _ | exact Le.eq (by first | rfl | simp)), Le.eq (by first | rfl | simp), Le.eq (by first | rfl | simp), Le.eq (by first | rfl | simp), trivial⟩ ⟨⟨_, rfl, LeO.refl _⟩, ⟨_, rfl, LeO.refl _⟩, trivial⟩ rfl (dom0 rfl) ?_
        exact ih.1 a0 a1 a2 x14 w27b o27b (o7j13 ++ [wrap64 (3 * a1)]) 
    · intro a0 a1 a2 x14 x8b o7b w27b o27b
      simp only [pileref1_KeyedOf.l1]
      refine RS.go ?_
      refine RT.br rfl (fun c11 => ?_) (fun c11 => ?_)
      · refine RT.brT rfl ?_
        refine RT.req rfl (by first | exact Nat.zero_add _ | rfl | simp [szf, szOf]) ?_
        refine RT.br rfl (fun c10 => ?_) (fun c10 => ?_)
        · refine RT.goto rfl ?_
          refine RS.slot 36 (sq eI [x8b]) (Le.lit (E := eI) (l := [x8b]) (cells_of rfl)) ?_
          refine RS.go ?_
          refine RT.req rfl ⟨by first | rfl | simp, by first | exact Nat.le_refl _ | simp⟩ ?_
          refine RT.not rfl (by simp <;> omega) ?_
          refine RT.br rfl (fun c9 => ?_) (fun _ => RT.none)
          refine RT.goto rfl ?_
          refine RS.obj 7 (bufE eI (o7b ++ [x8b])) ⟨_, rfl, LeO.app (l := o7b) (m := [x8b]) fun _ _ _ _ => rfl⟩ ?_
          refine RS.slot 37 (.osl 7 eI.w 0 (o7b ++ [x8b]).length (o7b ++ [x8b]).length) (by first | exact Le.oslN rfl (by simp) | exact Le.trans (y := .osl 7 eI.w 0 (o7b.length + 1) (o7b.length + 1)) (Le.refl _) (Le.oslN rfl (by simp))) ?_
          refine RS.go ?_
          refine RT.goto rfl ?_
          refine RS.weak [(0, .str a0), (1, .int .i64 a1), (2, .int .i64 a2), (7, .osl 7 eI.w 0 (o7b ++ [x8b]).length (o7b ++ [x8b]).length), (11, .int .i32 ((Utf8.decode w27b o27b).1 : Int)), (13, .int .i64 (a0.size : Int)), (14, .int .i64 x14), (27, .ref 27 0 0 0 0)] [(7, bufE eI (o7b ++ [x8b])), (27, .it w27b (o27b + (Utf8.decode w27b o27b).2))] ⟨Le.eq (by first | rfl | simp), Le.eq (by first | rfl | simp), Le.eq (by first | rfl | simp), (by first | exact Le.oslN rfl (by first | rfl | simp) | exact Le.refl _ | exact Le.eq (by first | rfl | simp)), Le.eq (by first | rfl | simp), Le.eq (by first | rfl | simp), Le.eq (by first | rfl | simp), Le.eq (by first | rfl | simp), trivial⟩ ⟨⟨_, rfl, LeO.refl _⟩, ⟨_, rfl, LeO.refl _⟩, trivial⟩ rfl (dom0 rfl) ?_
          exact ih.2.1 a0 a1 a2 x14 w27b o27b (o7b ++ [x8b]) 
        · refine RT.goto rfl ?_
          refine RS.weak [(0, .str a0), (1, .int .i64 a1), (2, .int .i64 a2), (7, .osl 7 eI.w 0 o7b.length o7b.length), (11, .int .i32 ((Utf8.decode w27b o27b).1 : Int)), (13, .int .i64 (a0.size : Int)), (14, .int .i64 x14), (27, .ref 27 0 0 0 0)] [(7, bufE eI o7b), (27, .it w27b (o27b + (Utf8.decode w27b o27b).2))] ⟨Le.eq (by first | rfl | simp), Le.eq (by first | rfl | simp), Le.eq (by first | rfl | simp), (by first | exact Le.oslN rfl (by first | rfl | simp) | exact Le.refl _ | exact Le.eq (by first | rfl | simp)), Le.eq (by first | rfl | simp), Le.eq (by first | rfl | simp), Le.eq (by first | rfl | simp), Le.eq (by first | rfl | simp), trivial⟩ ⟨⟨_, rfl, LeO.refl _⟩, ⟨_, rfl, LeO.refl _⟩, trivial⟩ rfl (dom0 rfl) ?_
          exact ih.2.1 a0 a1 a2 x14 w27b o27b o7b 
      · refine RT.brF rfl ?_
        refine RT.goto rfl ?_
        refine RS.weak [(0, .str a0), (1, .int .i64 a1), (2, .int .i64 a2), (7, .osl 7 eI.w 0 o7b.length o7b.length), (8, .int .i64 (wrap64 (3 * a2))), (13, .int .i64 (a0.size : Int)), (14, .int .i64 (wrap64 (x14 + 1)))] [(7, bufE eI o7b)] ⟨Le.eq (by first | rfl | simp), Le.eq (by first | rfl | simp), Le.eq (by first | rfl | simp), (by first | exact Le.oslN rfl (by first | rfl | simp) | exact Le.refl _ | exact Le.eq (by first | rfl | simp)), Le.eq (by first | rfl | simp), Le.eq (by first | rfl | simp), Le.eq (by first | rfl | simp), trivial⟩ ⟨⟨_, rfl, LeO.refl _⟩, trivial⟩ rfl (dom0 rfl) ?_
        exact ih.2.2.2 a0 a1 a2 (wrap64 (3 * a2)) (wrap64 (x14 + 1)) o7b 
    · intro a0 a1 a2 x8 x14 o7
      simp only [pileref1_KeyedOf.l0]
      refine RS.go ?_
      refine RT.br rfl (fun c13 => ?_) (fun c13 => ?_)
      · refine RT.br rfl (fun c1 => ?_) (fun c1 => RT.none)
        refine RT.br rfl (fun c2 => ?_) (fun c2 => RT.none)
        refine RT.br rfl (fun c12 => ?_) (fun c12 => ?_)
        · refine RT.goto rfl ?_
          refine RS.weak [(0, .str a0), (1, .int .i64 a1), (2, .int .i64 a2), (7, .osl 7 eI.w 0 o7.length o7.length), (8, .int .i64 (wrap64 (7 * a2))), (13, .int .i64 (a0.size : Int)), (14, .int .i64 (wrap64 (x14 + 1)))] [(7, bufE eI o7)] ⟨Le.eq (by first | rfl | simp), Le.eq (by first | rfl | simp), Le.eq (by first | rfl | simp), (by first | exact Le.oslN rfl (by first | rfl | simp) | exact Le.refl _ | exact Le.eq (by first | rfl | simp)), Le.eq (by first | rfl | simp), Le.eq (by first | rfl | simp), Le.eq (by first | rfl | simp), trivial⟩ ⟨⟨_, rfl, LeO.refl _⟩, trivial⟩ rfl (dom0 rfl) ?_
          exact ih.2.2.2 a0 a1 a2 (wrap64 (7 * a2)) (wrap64 (x14 + 1)) o7 
        · refine RT.br rfl (fun c3 => ?_) (fun c3 => RT.none)
          refine RT.br rfl (fun c4 => ?_) (fun c4 => RT.none)
          refine RT.call0 rfl (fun _ h => pileref1_codeOf.ok k (bt a0 x14) _ h) (LeL.eq rfl) (fun _ => rfl) (fun r5 => ?_)
          refine RS.go ?_
          refine RT.goto rfl ?_
          refine RS.weak [(0, .str a0), (1, .int .i64 a1), (2, .int .i64 a2), (7, .osl 7 eI.w 0 o7.length o7.length), (8, .int .i64 x8), (13, .int .i64 (a0.size : Int)), (14, .int .i64 x14), (27, .ref 27 0 0 0 0)] [(7, bufE eI o7), (27, .it r5 0)] ⟨Le.eq (by first | rfl | simp), Le.eq (by first | rfl | simp), Le.eq (by first | rfl | simp), (by first | exact Le.oslN rfl (by first | rfl | simp) | exact Le.refl _ | exact Le.eq (by first | rfl | simp)), Le.eq (by first | rfl | simp), Le.eq (by first | rfl | simp), Le.eq (by first | rfl | simp), Le.eq (by first | rfl | simp), trivial⟩ ⟨⟨_, rfl, LeO.refl _⟩, ⟨_, rfl, LeO.refl _⟩, trivial⟩ rfl (dom0 rfl) ?_
          exact ih.2.2.1 a0 a1 a2 x14 x8 o7 r5 0 
      · exact RT.done rfl rfl (Le.refl _) ⟨⟨_, rfl, LeO.refl _⟩, trivial⟩ rfl (dom0 rfl)
theorem pileref1_KeyedOf.ok (k : Nat) (a0 : ByteArray) (a1 : Int) (a2 : Int) (r : (List Int)) (h : pileref1_KeyedOf.f k a0 a1 a2 = some r) : Ct Tryz.prog B 68 [.str a0, .int .i64 a1, .int .i64 a2] (ofL []) (.osl 7 eI.w 0 r.length r.length) (ofL [(7, bufE eI r)]) := by
  refine Ct.of (Y := (fam Tryz.f68 [13, 16] [] [] (fun r : (List Int) => .osl 7 eI.w 0 r.length r.length) (fun r => [(7, bufE eI r)]))) Tryz.func68 rfl Tryz.call68 rfl rfl ?_ r h
  unfold pileref1_KeyedOf.f
  refine RS.go ?_
  refine RT.goto rfl ?_
  refine RS.ghost 7 7 eI.w (rep eI []) rfl rfl ?_
  refine RS.weak [(0, .str a0), (1, .int .i64 a1), (2, .int .i64 a2), (7, .osl 7 eI.w 0 ([] : List Int).length ([] : List Int).length), (8, .int .i64 0), (13, .int .i64 (a0.size : Int)), (14, .int .i64 0)] [(7, bufE eI ([] : List Int))] ⟨Le.eq (by first | rfl | simp), Le.eq (by first | rfl | simp), Le.eq (by first | rfl | simp), (by first | exact Le.oslN rfl (by first | rfl | simp) | exact Le.refl _ | exact Le.eq (by first | rfl | simp)), Le.eq (by first | rfl | simp), Le.eq (by first | rfl | simp), Le.eq (by first | rfl | simp), trivial⟩ ⟨⟨_, rfl, LeO.refl _⟩, trivial⟩ rfl (dom0 rfl) ?_
  exact (pileref1_KeyedOf.loops k).2.2.2 a0 a1 a2 0 0 [] 
/-! ### pilemake_Stream_Flip: function 37 -/
def pilemake_Stream_Flip.f (k : Nat) (p0_0 : List Int) (p0_1 : Int) (a1 : Int) : Option (Bool × (List Int) × Int) := ((pilemake_Stream_Next.f k p0_0 p0_1 a1).bind fun r1 => Option.some ((decide (r1.1 = 0)), r1.2.1, r1.2.2))
theorem pilemake_Stream_Flip.ok (k : Nat) (p0_0 : List Int) (p0_1 : Int) (a1 : Int) (r : Bool × (List Int) × Int) (h : pilemake_Stream_Flip.f k p0_0 p0_1 a1 = some r) : Ct Tryz.prog B 37 [.ref 100000 0 0 0 2, .int .i64 a1] (ofL [(100000, .box [sq eI p0_0, .int .i64 p0_1])]) (.bool r.1) (ofL [(100000, .box [sq eI r.2.1, .int .i64 r.2.2])]) := by
  refine Ct.of (Y := (fam Tryz.f37 [] [] [(100000, .box [sq eI p0_0, .int .i64 p0_1])] (fun r : Bool × (List Int) × Int => .bool r.1) (fun r => [(100000, .box [sq eI r.2.1, .int .i64 r.2.2])]))) Tryz.func37 rfl Tryz.call37 rfl rfl ?_ r h
  unfold pilemake_Stream_Flip.f
  refine RS.go ?_
  refine RT.call rfl (fun _ h => pilemake_Stream_Next.ok k p0_0 p0_1 a1 _ h) (fun i => bif Nat.beq i 100000 then 100000 else i) (LeL.eq rfl) ⟨⟨_, rfl, LeO.refl _⟩, trivial⟩ (fun _ => rfl) (fun r1 => ?_)
  refine RS.go ?_
  exact RT.done rfl rfl (Le.refl _) ⟨⟨_, rfl, LeO.refl _⟩, trivial⟩ rfl (dom_of rfl)
/-! ### pilemake_Stream_RightKeyed: function 16 -/
def pilemake_Stream_RightKeyed.k0 : List DK := [⟨[45, 44], [18], [], [18]⟩, ⟨[26, 27], [18], [45], []⟩, ⟨[43], [], [44], []⟩, ⟨[31, 42], [], [43], []⟩, ⟨[32, 41], [100000, 100000], [42], [100000]⟩, ⟨[34, 37, 38, 40], [41], [41], []⟩, ⟨[39], [], [40], []⟩, ⟨[3], [], [39], []⟩, ⟨[3], [], [38], []⟩, ⟨[36], [], [37], []⟩, ⟨[35], [], [36], []⟩, ⟨[3], [], [35], []⟩, ⟨[33], [], [34], []⟩, ⟨[3], [], [33], []⟩, ⟨[0], [], [32], []⟩, ⟨[30], [18], [31], []⟩, ⟨[28, 29], [18], [30], []⟩, ⟨[5], [], [29], []⟩, ⟨[4], [], [28], []⟩, ⟨[5], [], [27], []⟩, ⟨[4], [], [26], []⟩]
def pilemake_Stream_RightKeyed.k1 : List Nat := [0, 0, 0, 0, 12, 28, 0, 0, 128, 0, 512, 1536, 0, 0, 8192, 32640, 65472, 131068, 262140, 524287, 1048575]
mutual
def pilemake_Stream_RightKeyed.j8 : Nat → Int → Int → Int → List Int → List Int → Int → Option ((List Int) × (List Int) × Int)
  | 0, _, _, _, _, _, _ => Option.none
  | k + 1, x3, x20, x21, o18j8, o100000_0j8, o100000_1j8 => pilemake_Stream_RightKeyed.l0 k x3 x20 (wrap64 (x21 + 1)) o18j8 o100000_0j8 o100000_1j8
def pilemake_Stream_RightKeyed.l0 : Nat → Int → Int → Int → List Int → List Int → Int → Option ((List Int) × (List Int) × Int)
  | 0, _, _, _, _, _, _ => Option.none
  | k + 1, x3, x20, x21, o18, o100000_0, o100000_1 => (if x21 < x20 then ((pilemake_Stream_Flip.f k o100000_0 o100000_1 3).bind fun r5 => (if r5.1 = true then (if 0 ≤ x21 then (if x21 < (o18.length : Int) then ((pilemake_Stream_Pick.f k r5.2.1 r5.2.2 [1, (-1), wrap64 (Int.tdiv x3 3), wrap64 (Int.tdiv (wrap64 (0 - x3)) 3), x3, wrap64 (0 - x3)]).bind fun r8 => (if 0 ≤ x21 then (if x21 < (o18.length : Int) then pilemake_Stream_RightKeyed.j8 k x3 x20 x21 (o18.set (x21).toNat (mx 1 (wrap64 ((rd o18 x21) + r8.1)))) r8.2.1 r8.2.2 else Option.none) else Option.none)) else Option.none) else Option.none) else pilemake_Stream_RightKeyed.j8 k x3 x20 x21 o18 r5.2.1 r5.2.2)) else Option.some (o18, o100000_0, o100000_1))
end
def pilemake_Stream_RightKeyed.f (k : Nat) (p0_0 : List Int) (p0_1 : Int) : Option ((List Int) × (List Int) × Int) := ((pilemake_Stream_Pick.f k p0_0 p0_1 [1, 20, 60, 100]).bind fun r1 => ((pilemake_Stream_Some.f k r1.2.1 r1.2.2 [(⟨#[101]⟩ : ByteArray), (⟨#[112, 97, 114, 105, 115]⟩ : ByteArray), (⟨#[107, 49, 97, 98, 32, 107]⟩ : ByteArray), (⟨#[116, 101, 115, 116, 32, 116]⟩ : ByteArray), (⟨#[53, 110, 110]⟩ : ByteArray), (⟨#[97, 32, 110]⟩ : ByteArray)]).bind fun r2 => ((pilemake_Stream_Pick.f k r2.2.1 r2.2.2 [1, 1, 2]).bind fun r3 => ((pileref1_KeyedOf.f k r2.1 r1.1 (wrap64 (r1.1 * r3.1))).bind fun r4 => pilemake_Stream_RightKeyed.l0 k r1.1 (r4.length : Int) 0 r4 r3.2.1 r3.2.2))))
theorem pilemake_Stream_RightKeyed.loops (p0_0 : List Int) (p0_1 : Int) : ∀ k, (∀ (x3 : Int) (x20 : Int) (x21 : Int) (o18j8 : List Int) (o100000_0j8 : List Int) (o100000_1j8 : Int), RS (fam Tryz.f16 [8] [] [(100000, .box [sq eI p0_0, .int .i64 p0_1])] (fun r : (List Int) × (List Int) × Int => sq eI r.1) (fun r => [(100000, .box [sq eI r.2.1, .int .i64 r.2.2])])) (Func.reg Tryz.f16 8) ⟨ofT [(0, .ref 100000 0 0 0 2), (3, .int .i64 x3), (4, .osl 18 eI.w 0 o18j8.length o18j8.length), (20, .int .i64 x20), (21, .int .i64 x21)], ofL [(18, bufE eI o18j8), (100000, .box [sq eI o100000_0j8, .int .i64 o100000_1j8])]⟩ (pilemake_Stream_RightKeyed.j8 k x3 x20 x21 o18j8 o100000_0j8 o100000_1j8)) ∧ (∀ (x3 : Int) (x20 : Int) (x21 : Int) (o18 : List Int) (o100000_0 : List Int) (o100000_1 : Int), RS (fam Tryz.f16 [8] [] [(100000, .box [sq eI p0_0, .int .i64 p0_1])] (fun r : (List Int) × (List Int) × Int => sq eI r.1) (fun r => [(100000, .box [sq eI r.2.1, .int .i64 r.2.2])])) (Func.head Tryz.f16 0) ⟨ofT [(0, .ref 100000 0 0 0 2), (3, .int .i64 x3), (4, .osl 18 eI.w 0 o18.length o18.length), (20, .int .i64 x20), (21, .int .i64 x21)], ofL [(18, bufE eI o18), (100000, .box [sq eI o100000_0, .int .i64 o100000_1])]⟩ (pilemake_Stream_RightKeyed.l0 k x3 x20 x21 o18 o100000_0 o100000_1))
  | 0 => ⟨by intro _ _ _ _ _ _; simp only [pilemake_Stream_RightKeyed.j8]; exact RS.none, by intro _ _ _ _ _ _; simp only [pilemake_Stream_RightKeyed.l0]; exact RS.none⟩
  | k + 1 => by
    have ih := pilemake_Stream_RightKeyed.loops p0_0 p0_1 k
    refine ⟨?_, ?_⟩
    · intro x3 x20 x21 o18j8 o100000_0j8 o100000_1j8
      simp only [pilemake_Stream_RightKeyed.j8]
      refine RS.region ?_
      refine RS.go ?_
      refine RT.goto rfl ?_
      refine RS.weak [(0, .ref 100000 0 0 0 2), (3, .int .i64 x3), (4, .osl 18 eI.w 0 o18j8.length o18j8.length), (20, .int .i64 x20), (21, .int .i64 (wrap64 (x21 + 1)))] [(18, bufE eI o18j8), (100000, .box [sq eI o100000_0j8, .int .i64 o100000_1j8])] ⟨Le.eq (by first | rfl | simp), Le.eq (by first | rfl | simp), (by first | exact Le.oslN rfl (by first | rfl | simp) | exact Le.refl _ | exact Le.eq (by first | rfl | simp)), Le.eq (by first | rfl | simp), Le.eq (by first | rfl | simp), trivial⟩ ⟨⟨_, rfl, LeO.refl _⟩, ⟨_, rfl, LeO.refl _⟩, trivial⟩ rfl (dom_of rfl) ?_
      exact ih.2 x3 x20 (wrap64 (x21 + 1)) o18j8 o100000_0j8 o100000_1j8 
    · intro x3 x20 x21 o18 o100000_0 o100000_1
      simp only [pilemake_Stream_RightKeyed.l0]
      refine RS.go ?_
      refine RT.br rfl (fun c12 => ?_) (fun c12 => ?_)
      · refine RT.call rfl (fun _ h => pilemake_Stream_Flip.ok k o100000_0 o100000_1 3 _ h) (fun i => bif Nat.beq i 100000 then 100000 else i) (LeL.eq rfl) ⟨⟨_, rfl, LeO.refl _⟩, trivial⟩ (fun _ => rfl) (fun r5 => ?_)
        refine RS.go ?_
        refine RT.brB rfl (fun c11 => ?_) (fun c11 => ?_)
        · refine RT.goto rfl ?_
          refine RS.draw rfl ?_
          refine RD.req rfl (by first | exact Nat.zero_add _ | rfl | simp) ?_
          refine RD.br rfl (fun c6 => ?_) (fun c6 => RD.none)
          refine RD.br rfl (fun c7 => ?_) (fun c7 => RD.none)
          refine RD.req rfl ⟨by first | rfl | simp, elt_lt c6 (by first | exact c7 | simpa using c7)⟩ ?_
          refine RD.brF rfl ?_
          refine RD.brF rfl ?_
          refine RD.call (CR := []) (CW := (fun r => [(100000, .box [sq eI r.2.1, .int .i64 r.2.2])])) rfl (fun _ h => pilemake_Stream_Pick.ok k r5.2.1 r5.2.2 [1, (-1), wrap64 (Int.tdiv x3 3), wrap64 (Int.tdiv (wrap64 (0 - x3)) 3), x3, wrap64 (0 - x3)] _ h) (fun i => bif Nat.beq i 100000 then 100000 else i) trivial (fun _ => rfl) ⟨_, _, _, _, rfl, rfl, rfl⟩ (LeL.cons (Le.refl _) (LeL.cons (Le.lit (E := eI) (l := [1, (-1), wrap64 (Int.tdiv x3 3), wrap64 (Int.tdiv (wrap64 (0 - x3)) 3), x3, wrap64 (0 - x3)]) (cells_of rfl)) (LeL.nil))) ⟨⟨_, rfl, LeO.refl _⟩, trivial⟩ (fun _ => rfl) (fun r8 => ?_)
          refine RD.req rfl (by first | exact Nat.zero_add _ | rfl | simp) ?_
          refine RD.br rfl (fun c9 => ?_) (fun c9 => RD.none)
          refine RD.br rfl (fun c10 => ?_) (fun c10 => RD.none)
          refine RD.req rfl ⟨by first | rfl | simp, elt_lt c9 (by first | exact c10 | simpa using c10)⟩ ?_
          refine RD.fin pilemake_Stream_RightKeyed.k0 pilemake_Stream_RightKeyed.k1 rfl rfl (by decide +kernel) ?_
          refine RS.obj 18 (bufE eI (o18.set (x21).toNat (mx 1 (wrap64 ((rd o18 x21) + r8.1))))) ⟨_, rfl, LeO.setE c9 (by first | exact c10 | simpa using c10) (all1 rfl)⟩ ?_
          refine RS.go ?_
          refine RT.goto rfl ?_
          refine RS.weak [(0, .ref 100000 0 0 0 2), (3, .int .i64 x3), (4, .osl 18 eI.w 0 (o18.set (x21).toNat (mx 1 (wrap64 ((rd o18 x21) + r8.1)))).length (o18.set (x21).toNat (mx 1 (wrap64 ((rd o18 x21) + r8.1)))).length), (20, .int .i64 x20), (21, .int .i64 x21)] [(18, bufE eI (o18.set (x21).toNat (mx 1 (wrap64 ((rd o18 x21) + r8.1))))), (100000, .box [sq eI r8.2.1, .int .i64 r8.2.2])] ⟨Le.eq (by first | rfl | simp), Le.eq (by first | rfl | simp), (by first | exact Le.oslN rfl (by first | rfl | simp) | exact Le.refl _ | exact Le.eq (by first | rfl | simp)), Le.eq (by first | rfl | simp), Le.eq (by first | rfl | simp), trivial⟩ ⟨⟨_, rfl, LeO.refl _⟩, ⟨_, rfl, LeO.refl _⟩, trivial⟩ rfl (dom_of rfl) ?_
          exact ih.1 x3 x20 x21 (o18.set (x21).toNat (mx 1 (wrap64 ((rd o18 x21) + r8.1)))) r8.2.1 r8.2.2 
        · refine RT.goto rfl ?_
          refine RS.weak [(0, .ref 100000 0 0 0 2), (3, .int .i64 x3), (4, .osl 18 eI.w 0 o18.length o18.length), (20, .int .i64 x20), (21, .int .i64 x21)] [(18, bufE eI o18), (100000, .box [sq eI r5.2.1, .int .i64 r5.2.2])] ⟨Le.eq (by first | rfl | simp), Le.eq (by first | rfl | simp), (by first | exact Le.oslN rfl (by first | rfl | simp) | exact Le.refl _ | exact Le.eq (by first | rfl | simp)), Le.eq (by first | rfl | simp), Le.eq (by first | rfl | simp), trivial⟩ ⟨⟨_, rfl, LeO.refl _⟩, ⟨_, rfl, LeO.refl _⟩, trivial⟩ rfl (dom_of rfl) ?_
          exact ih.1 x3 x20 x21 o18 r5.2.1 r5.2.2 
      · refine RT.freeze 18 _ _ _ [(2, sq eI o18)] [(100000, .box [sq eI o100000_0, .int .i64 o100000_1])] rfl rfl ⟨.inr ⟨_, rfl, by first | exact Nat.le_refl _ | simp, rfl⟩, trivial⟩ ⟨⟨_, rfl, LeO.refl _⟩, trivial⟩ rfl (dom_of rfl) ?_
        exact RT.done rfl rfl (Le.refl _) ⟨⟨_, rfl, LeO.refl _⟩, trivial⟩ rfl (dom_of rfl)
theorem pilemake_Stream_RightKeyed.ok (k : Nat) (p0_0 : List Int) (p0_1 : Int) (r : (List Int) × (List Int) × Int) (h : pilemake_Stream_RightKeyed.f k p0_0 p0_1 = some r) : Ct Tryz.prog B 16 [.ref 100000 0 0 0 2] (ofL [(100000, .box [sq eI p0_0, .int .i64 p0_1])]) (sq eI r.1) (ofL [(100000, .box [sq eI r.2.1, .int .i64 r.2.2])]) := by
  refine Ct.of (Y := (fam Tryz.f16 [8] [] [(100000, .box [sq eI p0_0, .int .i64 p0_1])] (fun r : (List Int) × (List Int) × Int => sq eI r.1) (fun r => [(100000, .box [sq eI r.2.1, .int .i64 r.2.2])]))) Tryz.func16 rfl Tryz.call16 rfl rfl ?_ r h
  unfold pilemake_Stream_RightKeyed.f
  refine RS.go ?_
  refine RT.goto rfl ?_
  refine RS.slot 7 (sq eI [1, 20, 60, 100]) (Le.lit (E := eI) (l := [1, 20, 60, 100]) (cells_of rfl)) ?_
  refine RS.go ?_
  refine RT.call rfl (fun _ h => pilemake_Stream_Pick.ok k p0_0 p0_1 [1, 20, 60, 100] _ h) (fun i => bif Nat.beq i 100000 then 100000 else i) (LeL.eq rfl) ⟨⟨_, rfl, LeO.refl _⟩, trivial⟩ (fun _ => rfl) (fun r1 => ?_)
  refine RS.go ?_
  refine RT.goto rfl ?_
  refine RS.slot 10 (sq eS [(⟨#[101]⟩ : ByteArray), (⟨#[112, 97, 114, 105, 115]⟩ : ByteArray), (⟨#[107, 49, 97, 98, 32, 107]⟩ : ByteArray), (⟨#[116, 101, 115, 116, 32, 116]⟩ : ByteArray), (⟨#[53, 110, 110]⟩ : ByteArray), (⟨#[97, 32, 110]⟩ : ByteArray)]) (Le.lit (E := eS) (l := [(⟨#[101]⟩ : ByteArray), (⟨#[112, 97, 114, 105, 115]⟩ : ByteArray), (⟨#[107, 49, 97, 98, 32, 107]⟩ : ByteArray), (⟨#[116, 101, 115, 116, 32, 116]⟩ : ByteArray), (⟨#[53, 110, 110]⟩ : ByteArray), (⟨#[97, 32, 110]⟩ : ByteArray)]) (cells_of rfl)) ?_
  refine RS.go ?_
  refine RT.call rfl (fun _ h => pilemake_Stream_Some.ok k r1.2.1 r1.2.2 [(⟨#[101]⟩ : ByteArray), (⟨#[112, 97, 114, 105, 115]⟩ : ByteArray), (⟨#[107, 49, 97, 98, 32, 107]⟩ : ByteArray), (⟨#[116, 101, 115, 116, 32, 116]⟩ : ByteArray), (⟨#[53, 110, 110]⟩ : ByteArray), (⟨#[97, 32, 110]⟩ : ByteArray)] _ h) (fun i => bif Nat.beq i 100000 then 100000 else i) (LeL.eq rfl) ⟨⟨_, rfl, LeO.refl _⟩, trivial⟩ (fun _ => rfl) (fun r2 => ?_)
  refine RS.go ?_
  refine RT.goto rfl ?_
  refine RS.slot 15 (sq eI [1, 1, 2]) (Le.lit (E := eI) (l := [1, 1, 2]) (cells_of rfl)) ?_
  refine RS.go ?_
  refine RT.call rfl (fun _ h => pilemake_Stream_Pick.ok k r2.2.1 r2.2.2 [1, 1, 2] _ h) (fun i => bif Nat.beq i 100000 then 100000 else i) (LeL.eq rfl) ⟨⟨_, rfl, LeO.refl _⟩, trivial⟩ (fun _ => rfl) (fun r3 => ?_)
  refine RS.go ?_
  refine RT.call rfl (fun _ h => pileref1_KeyedOf.ok k r2.1 r1.1 (wrap64 (r1.1 * r3.1)) _ h) (fun i => bif Nat.beq i 7 then 18 else i) (LeL.eq rfl) trivial (fun _ => rfl) (fun r4 => ?_)
  refine RS.go ?_
  refine RT.req rfl (by first | exact Nat.zero_add _ | rfl | simp [szf, szOf]) ?_
  refine RT.goto rfl ?_
  refine RS.weak [(0, .ref 100000 0 0 0 2), (3, .int .i64 r1.1), (4, .osl 18 eI.w 0 r4.length r4.length), (20, .int .i64 (r4.length : Int)), (21, .int .i64 0)] [(18, bufE eI r4), (100000, .box [sq eI r3.2.1, .int .i64 r3.2.2])] ⟨Le.eq (by first | rfl | simp), Le.eq (by first | rfl | simp), (by first | exact Le.oslN rfl (by first | rfl | simp) | exact Le.refl _ | exact Le.eq (by first | rfl | simp)), Le.eq (by first | rfl | simp), Le.eq (by first | rfl | simp), trivial⟩ ⟨⟨_, rfl, LeO.refl _⟩, ⟨_, rfl, LeO.refl _⟩, trivial⟩ rfl (dom_of rfl) ?_
  exact (pilemake_Stream_RightKeyed.loops p0_0 p0_1 k).2 r1.1 (r4.length : Int) 0 r4 r3.2.1 r3.2.2 
/-! ### kit_Outside: function 55 -/
def kit_Outside.f (a0 : Int) (a1 : Int) (a2 : Int) : Option (Bool) := (if a0 < a1 then Option.some true else Option.some (decide (a0 > a2)))
theorem kit_Outside.ok (a0 : Int) (a1 : Int) (a2 : Int) (r : Bool) (h : kit_Outside.f a0 a1 a2 = some r) : Ct Tryz.prog B 55 [.int .i64 a0, .int .i64 a1, .int .i64 a2] (ofL []) (.bool r) (ofL []) := by
  refine Ct.of (Y := (fam Tryz.f55 [] [] [] (fun r : Bool => .bool r) (fun r => []))) Tryz.func55 rfl Tryz.call55 rfl rfl ?_ r h
  unfold kit_Outside.f
  refine RS.go ?_
  refine RT.br rfl (fun c1 => ?_) (fun c1 => ?_)
  · refine RT.brT rfl ?_
    refine RT.brT rfl ?_
    refine RT.brT rfl ?_
    exact RT.done rfl rfl (Le.refl _) trivial rfl (dom0 rfl)
  · refine RT.brF rfl ?_
    refine RT.brF rfl ?_
    refine RT.brF rfl ?_
    exact RT.done rfl rfl (Le.refl _) trivial rfl (dom0 rfl)
/-! ### key_CheckMarks_1: function 127 -/
def key_CheckMarks_1.f (a0 : Int) : Option (Bool) := ((kit_Outside.f a0 1 100000).bind fun r1 => Option.some r1)
theorem key_CheckMarks_1.ok (a0 : Int) (r : Bool) (h : key_CheckMarks_1.f a0 = some r) : Ct Tryz.prog B 127 [.int .i64 a0] (ofL []) (.bool r) (ofL []) := by
  refine Ct.of (Y := (fam Tryz.f127 [] [] [] (fun r : Bool => .bool r) (fun r => []))) Tryz.func127 rfl Tryz.call127 rfl rfl ?_ r h
  unfold key_CheckMarks_1.f
  refine RS.go ?_
  refine RT.call0 rfl (fun _ h => kit_Outside.ok a0 1 100000 _ h) (LeL.eq rfl) (fun _ => rfl) (fun r1 => ?_)
  refine RS.go ?_
  exact RT.done rfl rfl (Le.refl _) trivial rfl (dom0 rfl)
/-! ### slices_IndexFunc_int_int_of_key_CheckMarks_1: function 128 -/
def slices_IndexFunc_int_int_of_key_CheckMarks_1.l0 : Nat → List Int → Int → Option (Int)
  | 0, _, _ => Option.none
  | k + 1, l0, x8 => (if x8 < (l0.length : Int) then (if 0 ≤ x8 then (if x8 < (l0.length : Int) then ((key_CheckMarks_1.f (rd l0 x8)).bind fun r3 => (if r3 = true then Option.some x8 else slices_IndexFunc_int_int_of_key_CheckMarks_1.l0 k l0 (wrap64 (x8 + 1)))) else Option.none) else Option.none) else Option.some (-1))
def slices_IndexFunc_int_int_of_key_CheckMarks_1.f (k : Nat) (l0 : List Int) : Option (Int) := slices_IndexFunc_int_int_of_key_CheckMarks_1.l0 k l0 0
theorem slices_IndexFunc_int_int_of_key_CheckMarks_1.loops : ∀ k, (∀ (l0 : List Int) (x8 : Int), RS (fam Tryz.f128 [] [] [] (fun r : Int => .int .i64 r) (fun r => [])) (Func.head Tryz.f128 0) ⟨ofT [(0, sq eI l0), (1, .fn 127 []), (7, .int .i64 (l0.length : Int)), (8, .int .i64 x8)], ofL []⟩ (slices_IndexFunc_int_int_of_key_CheckMarks_1.l0 k l0 x8))
  | 0 => by intro _ _; simp only [slices_IndexFunc_int_int_of_key_CheckMarks_1.l0]; exact RS.none
  | k + 1 => by
    have ih := slices_IndexFunc_int_int_of_key_CheckMarks_1.loops k
    · intro l0 x8
      simp only [slices_IndexFunc_int_int_of_key_CheckMarks_1.l0]
      refine RS.go ?_
      refine RT.br rfl (fun c5 => ?_) (fun c5 => ?_)
      · refine RT.br rfl (fun c1 => ?_) (fun c1 => RT.none)
        refine RT.br rfl (fun c2 => ?_) (fun c2 => RT.none)
        refine RT.call0 rfl (fun _ h => key_CheckMarks_1.ok (rd l0 x8) _ h) (LeL.eq rfl) (fun _ => rfl) (fun r3 => ?_)
        refine RS.go ?_
        refine RT.brB rfl (fun c4 => ?_) (fun c4 => ?_)
        · exact RT.done rfl rfl (Le.refl _) trivial rfl (dom0 rfl)
        · refine RT.goto rfl ?_
          refine RS.weak [(0, sq eI l0), (1, .fn 127 []), (7, .int .i64 (l0.length : Int)), (8, .int .i64 (wrap64 (x8 + 1)))] [] ⟨Le.eq (by first | rfl | simp), Le.eq (by first | rfl | simp), Le.eq (by first | rfl | simp), Le.eq (by first | rfl | simp), trivial⟩ trivial rfl (dom0 rfl) ?_
          exact ih l0 (wrap64 (x8 + 1)) 
      · exact RT.done rfl rfl (Le.refl _) trivial rfl (dom0 rfl)
theorem slices_IndexFunc_int_int_of_key_CheckMarks_1.ok (k : Nat) (l0 : List Int) (r : Int) (h : slices_IndexFunc_int_int_of_key_CheckMarks_1.f k l0 = some r) : Ct Tryz.prog B 128 [sq eI l0, .fn 127 []] (ofL []) (.int .i64 r) (ofL []) := by
  refine Ct.of (Y := (fam Tryz.f128 [] [] [] (fun r : Int => .int .i64 r) (fun r => []))) Tryz.func128 rfl Tryz.call128 rfl rfl ?_ r h
  unfold slices_IndexFunc_int_int_of_key_CheckMarks_1.f
  refine RS.go ?_
  refine RT.goto rfl ?_
  refine RS.weak [(0, sq eI l0), (1, .fn 127 []), (7, .int .i64 (l0.length : Int)), (8, .int .i64 0)] [] ⟨Le.eq (by first | rfl | simp), Le.eq (by first | rfl | simp), Le.eq (by first | rfl | simp), Le.eq (by first | rfl | simp), trivial⟩ trivial rfl (dom0 rfl) ?_
  exact slices_IndexFunc_int_int_of_key_CheckMarks_1.loops k l0 0 
/-! ### slices_ContainsFunc_int_int_of_key_CheckMarks_1: function 72 -/
def slices_ContainsFunc_int_int_of_key_CheckMarks_1.f (k : Nat) (l0 : List Int) : Option (Bool) := ((slices_IndexFunc_int_int_of_key_CheckMarks_1.f k l0).bind fun r1 => Option.some (decide (r1 ≥ 0)))
theorem slices_ContainsFunc_int_int_of_key_CheckMarks_1.ok (k : Nat) (l0 : List Int) (r : Bool) (h : slices_ContainsFunc_int_int_of_key_CheckMarks_1.f k l0 = some r) : Ct Tryz.prog B 72 [sq eI l0, .fn 127 []] (ofL []) (.bool r) (ofL []) := by
  refine Ct.of (Y := (fam Tryz.f72 [] [] [] (fun r : Bool => .bool r) (fun r => []))) Tryz.func72 rfl Tryz.call72 rfl rfl ?_ r h
  unfold slices_ContainsFunc_int_int_of_key_CheckMarks_1.f
  refine RS.go ?_
  refine RT.call0 rfl (fun _ h => slices_IndexFunc_int_int_of_key_CheckMarks_1.ok k l0 _ h) (LeL.eq rfl) (fun _ => rfl) (fun r1 => ?_)
  refine RS.go ?_
  exact RT.done rfl rfl (Le.refl _) trivial rfl (dom0 rfl)
/-! ### key_CheckMarks: function 69 -/
def key_CheckMarks.f (k : Nat) (l0 : List Int) : Option (Int) := (if (l0.length : Int) = 0 then Option.some 8 else (if (l0.length : Int) > 20000 then Option.some 2 else (if Int.tmod (l0.length : Int) 2 = 0 then Option.some 3 else ((slices_ContainsFunc_int_int_of_key_CheckMarks_1.f k l0).bind fun r1 => (if r1 = true then Option.some 1 else Option.some 0)))))
theorem key_CheckMarks.ok (k : Nat) (l0 : List Int) (r : Int) (h : key_CheckMarks.f k l0 = some r) : Ct Tryz.prog B 69 [sq eI l0] (ofL []) (.int .i64 r) (ofL []) := by
  refine Ct.of (Y := (fam Tryz.f69 [] [] [] (fun r : Int => .int .i64 r) (fun r => []))) Tryz.func69 rfl Tryz.call69 rfl rfl ?_ r h
  unfold key_CheckMarks.f
  refine RS.go ?_
  refine RT.br rfl (fun c5 => ?_) (fun c5 => ?_)
  · exact RT.done rfl rfl (Le.refl _) trivial rfl (dom0 rfl)
  · refine RT.br rfl (fun c4 => ?_) (fun c4 => ?_)
    · exact RT.done rfl rfl (Le.refl _) trivial rfl (dom0 rfl)
    · refine RT.brF rfl ?_
      refine RT.br rfl (fun c3 => ?_) (fun c3 => ?_)
      · exact RT.done rfl rfl (Le.refl _) trivial rfl (dom0 rfl)
      · refine RT.call0 rfl (fun _ h => slices_ContainsFunc_int_int_of_key_CheckMarks_1.ok k l0 _ h) (LeL.eq rfl) (fun _ => rfl) (fun r1 => ?_)
        refine RS.go ?_
        refine RT.brB rfl (fun c2 => ?_) (fun c2 => ?_)
        · exact RT.done rfl rfl (Le.refl _) trivial rfl (dom0 rfl)
        · exact RT.done rfl rfl (Le.refl _) trivial rfl (dom0 rfl)
/-! ### key_closed: function 71 -/
def key_closed.k0 : List DK := [⟨[40, 39], [10], [], [10]⟩, ⟨[23, 26], [10], [40], []⟩, ⟨[28, 38], [], [39], []⟩, ⟨[32, 37], [], [38], []⟩, ⟨[36], [], [37], []⟩, ⟨[33, 35], [], [36], []⟩, ⟨[34], [], [35], []⟩, ⟨[6], [], [34], []⟩, ⟨[0], [], [33], []⟩, ⟨[31], [], [32], []⟩, ⟨[29, 30], [], [31], []⟩, ⟨[6], [], [30], []⟩, ⟨[0], [], [29], []⟩, ⟨[27], [10], [28], []⟩, ⟨[23, 26], [10], [27], []⟩, ⟨[25], [], [26], []⟩, ⟨[24], [10], [25], []⟩, ⟨[5], [], [24], []⟩, ⟨[5], [], [23], []⟩]
def key_closed.k1 : List Nat := [0, 0, 2, 6, 15, 31, 0, 0, 192, 448, 0, 0, 2048, 7168, 15360, 32704, 65535, 131071, 262143]
def key_closed.k2 : List DK := [⟨[52], [], [5], []⟩, ⟨[41, 51], [52, 10], [52], [10]⟩, ⟨[45, 50], [51], [51], []⟩, ⟨[49], [], [50], []⟩, ⟨[46, 48], [], [49], []⟩, ⟨[47], [], [48], []⟩, ⟨[6], [], [47], []⟩, ⟨[0], [], [46], []⟩, ⟨[44], [], [45], []⟩, ⟨[42, 43], [], [44], []⟩, ⟨[6], [], [43], []⟩, ⟨[0], [], [42], []⟩, ⟨[5], [], [41], []⟩]
def key_closed.k3 : List Nat := [0, 0, 0, 6, 14, 0, 0, 64, 224, 480, 1022, 2047, 4095]
mutual
def key_closed.j4 : Nat → List Int → Int → Int → List Int → Option ((List Int))
  | 0, _, _, _, _ => Option.none
  | k + 1, l0, a1, x6, o10j4 => key_closed.l0 k l0 a1 (wrap64 (x6 + 2)) o10j4
def key_closed.l0 : Nat → List Int → Int → Int → List Int → Option ((List Int))
  | 0, _, _, _, _ => Option.none
  | k + 1, l0, a1, x6, o10 => (if x6 < (l0.length : Int) then (if 0 ≤ x6 then (if x6 < (l0.length : Int) then (if (rd l0 x6) < a1 then (if 0 ≤ wrap64 ((o10.length : Int) - 1) then (if wrap64 ((o10.length : Int) - 1) < (o10.length : Int) then (if 0 ≤ x6 then (if x6 < (l0.length : Int) then (if 0 ≤ wrap64 (x6 + 1) then (if wrap64 (x6 + 1) < (l0.length : Int) then (if 0 ≤ wrap64 ((o10.length : Int) - 1) then (if wrap64 ((o10.length : Int) - 1) < (o10.length : Int) then key_closed.j4 k l0 a1 x6 (o10.set ((wrap64 ((o10.length : Int) - 1))).toNat (wrap64 ((rd o10 (wrap64 ((o10.length : Int) - 1))) + (wrap64 ((rd l0 x6) + (rd l0 (wrap64 (x6 + 1)))))))) else Option.none) else Option.none) else Option.none) else Option.none) else Option.none) else Option.none) else Option.none) else Option.none) else (if 0 ≤ x6 then (if x6 < (l0.length : Int) then (if 0 ≤ wrap64 (x6 + 1) then (if wrap64 (x6 + 1) < (l0.length : Int) then (if o10.length + [(rd l0 x6), (rd l0 (wrap64 (x6 + 1)))].length ≤ 549755813888 then key_closed.j4 k l0 a1 x6 (o10 ++ [(rd l0 x6), (rd l0 (wrap64 (x6 + 1)))]) else Option.none) else Option.none) else Option.none) else Option.none) else Option.none)) else Option.none) else Option.none) else Option.some o10)
end
def key_closed.f (k : Nat) (l0 : List Int) (a1 : Int) : Option ((List Int)) := (if 0 < (l0.length : Int) then key_closed.l0 k l0 a1 1 [(rd l0 0)] else Option.none)
theorem key_closed.loops : ∀ k, (∀ (l0 : List Int) (a1 : Int) (x6 : Int) (o10j4 : List Int), RS (fam Tryz.f71 [4] [10] [] (fun r : (List Int) => sq eI r) (fun r => [])) (Func.reg Tryz.f71 4) ⟨ofT [(0, sq eI l0), (1, .int .i64 a1), (5, .osl 10 eI.w 0 o10j4.length o10j4.length), (6, .int .i64 x6)], ofL [(10, bufE eI o10j4)]⟩ (key_closed.j4 k l0 a1 x6 o10j4)) ∧ (∀ (l0 : List Int) (a1 : Int) (x6 : Int) (o10 : List Int), RS (fam Tryz.f71 [4] [10] [] (fun r : (List Int) => sq eI r) (fun r => [])) (Func.head Tryz.f71 0) ⟨ofT [(0, sq eI l0), (1, .int .i64 a1), (5, .osl 10 eI.w 0 o10.length o10.length), (6, .int .i64 x6)], ofL [(10, bufE eI o10)]⟩ (key_closed.l0 k l0 a1 x6 o10))
  | 0 => ⟨by intro _ _ _ _; simp only [key_closed.j4]; exact RS.none, by intro _ _ _ _; simp only [key_closed.l0]; exact RS.none⟩
  | k + 1 => by
    have ih := key_closed.loops k
    refine ⟨?_, ?_⟩
    · intro l0 a1 x6 o10j4
      simp only [key_closed.j4]
      refine RS.region ?_
      refine RS.go ?_
      refine RT.goto rfl ?_
      refine RS.weak [(0, sq eI l0), (1, .int .i64 a1), (5, .osl 10 eI.w 0 o10j4.length o10j4.length), (6, .int .i64 (wrap64 (x6 + 2)))] [(10, bufE eI o10j4)] ⟨Le.eq (by first | rfl | simp), Le.eq (by first | rfl | simp), (by first | exact Le.oslN rfl (by first | rfl | simp) | exact Le.refl _ | exact Le.eq (by first | rfl | simp)), Le.eq (by first | rfl | simp), trivial⟩ ⟨⟨_, rfl, LeO.refl _⟩, trivial⟩ rfl (dom0 rfl) ?_
      exact ih.2 l0 a1 (wrap64 (x6 + 2)) o10j4 
    · intro l0 a1 x6 o10
      simp only [key_closed.l0]
      refine RS.go ?_
      refine RT.br rfl (fun c18 => ?_) (fun c18 => ?_)
      · refine RT.br rfl (fun c2 => ?_) (fun c2 => RT.none)
        refine RT.br rfl (fun c3 => ?_) (fun c3 => RT.none)
        refine RT.br rfl (fun c17 => ?_) (fun c17 => ?_)
        · refine RT.goto rfl ?_
          refine RS.draw rfl ?_
          refine RD.req rfl (by first | exact Nat.zero_add _ | rfl | simp [szf, szOf]) ?_
          refine RD.req rfl (by first | exact Nat.zero_add _ | rfl | simp) ?_
          refine RD.br rfl (fun c4 => ?_) (fun c4 => RD.none)
          refine RD.br rfl (fun c5 => ?_) (fun c5 => RD.none)
          refine RD.req rfl ⟨by first | rfl | simp, elt_lt c4 (by first | exact c5 | simpa using c5)⟩ ?_
          refine RD.br rfl (fun c6 => ?_) (fun c6 => RD.none)
          refine RD.br rfl (fun c7 => ?_) (fun c7 => RD.none)
          refine RD.br rfl (fun c8 => ?_) (fun c8 => RD.none)
          refine RD.br rfl (fun c9 => ?_) (fun c9 => RD.none)
          refine RD.req rfl (by first | exact Nat.zero_add _ | rfl | simp) ?_
          refine RD.br rfl (fun c10 => ?_) (fun c10 => RD.none)
          refine RD.br rfl (fun c11 => ?_) (fun c11 => RD.none)
          refine RD.req rfl ⟨by first | rfl | simp, elt_lt c10 (by first | exact c11 | simpa using c11)⟩ ?_
          refine RD.fin key_closed.k0 key_closed.k1 rfl rfl (by decide +kernel) ?_
          refine RS.obj 10 (bufE eI (o10.set ((wrap64 ((o10.length : Int) - 1))).toNat (wrap64 ((rd o10 (wrap64 ((o10.length : Int) - 1))) + (wrap64 ((rd l0 x6) + (rd l0 (wrap64 (x6 + 1))))))))) ⟨_, rfl, LeO.setE c10 (by first | exact c11 | simpa using c11) (all1 rfl)⟩ ?_
          refine RS.go ?_
          refine RT.goto rfl ?_
          refine RS.weak [(0, sq eI l0), (1, .int .i64 a1), (5, .osl 10 eI.w 0 (o10.set ((wrap64 ((o10.length : Int) - 1))).toNat (wrap64 ((rd o10 (wrap64 ((o10.length : Int) - 1))) + (wrap64 ((rd l0 x6) + (rd l0 (wrap64 (x6 + 1)))))))).length (o10.set ((wrap64 ((o10.length : Int) - 1))).toNat (wrap64 ((rd o10 (wrap64 ((o10.length : Int) - 1))) + (wrap64 ((rd l0 x6) + (rd l0 (wrap64 (x6 + 1)))))))).length), (6, .int .i64 x6)] [(10, bufE eI (o10.set ((wrap64 ((o10.length : Int) - 1))).toNat (wrap64 ((rd o10 (wrap64 ((o10.length : Int) - 1))) + (wrap64 ((rd l0 x6) + (rd l0 (wrap64 (x6 + 1)))))))))] ⟨Le.eq (by first | rfl | simp), Le.eq (by first | rfl | simp), (by first | exact Le.oslN rfl (by first | rfl | simp) | exact Le.refl _ | exact Le.eq (by first | rfl | simp)), Le.eq (by first | rfl | simp), trivial⟩ ⟨⟨_, rfl, LeO.refl _⟩, trivial⟩ rfl (dom0 rfl) ?_
          exact ih.1 l0 a1 x6 (o10.set ((wrap64 ((o10.length : Int) - 1))).toNat (wrap64 ((rd o10 (wrap64 ((o10.length : Int) - 1))) + (wrap64 ((rd l0 x6) + (rd l0 (wrap64 (x6 + 1)))))))) 
        · refine RT.goto rfl ?_
          refine RS.draw rfl ?_
          refine RD.br rfl (fun c12 => ?_) (fun c12 => RD.none)
          refine RD.br rfl (fun c13 => ?_) (fun c13 => RD.none)
          refine RD.br rfl (fun c14 => ?_) (fun c14 => RD.none)
          refine RD.br rfl (fun c15 => ?_) (fun c15 => RD.none)
          refine RD.req rfl ⟨by first | rfl | simp, by first | exact Nat.le_refl _ | simp⟩ ?_
          refine RD.not rfl (by simp <;> omega) ?_
          refine RD.br rfl (fun c16 => ?_) (fun _ => RD.none)
          refine RD.fin key_closed.k2 key_closed.k3 rfl rfl (by decide +kernel) ?_
          refine RS.obj 10 (bufE eI (o10 ++ [(rd l0 x6), (rd l0 (wrap64 (x6 + 1)))])) ⟨_, rfl, LeO.app (l := o10) (m := [(rd l0 x6), (rd l0 (wrap64 (x6 + 1)))]) (cells_of rfl)⟩ ?_
          refine RS.slot 5 (.osl 10 eI.w 0 (o10 ++ [(rd l0 x6), (rd l0 (wrap64 (x6 + 1)))]).length (o10 ++ [(rd l0 x6), (rd l0 (wrap64 (x6 + 1)))]).length) (Le.oslN rfl (by simp)) ?_
          refine RS.slot 52 (.osl 10 eI.w 0 (o10 ++ [(rd l0 x6), (rd l0 (wrap64 (x6 + 1)))]).length (o10 ++ [(rd l0 x6), (rd l0 (wrap64 (x6 + 1)))]).length) (Le.oslN rfl (by simp)) ?_
          refine RS.go ?_
          refine RT.goto rfl ?_
          refine RS.weak [(0, sq eI l0), (1, .int .i64 a1), (5, .osl 10 eI.w 0 (o10 ++ [(rd l0 x6), (rd l0 (wrap64 (x6 + 1)))]).length (o10 ++ [(rd l0 x6), (rd l0 (wrap64 (x6 + 1)))]).length), (6, .int .i64 x6)] [(10, bufE eI (o10 ++ [(rd l0 x6), (rd l0 (wrap64 (x6 + 1)))]))] ⟨Le.eq (by first | rfl | simp), Le.eq (by first | rfl | simp), (by first | exact Le.oslN rfl (by first | rfl | simp) | exact Le.refl _ | exact Le.eq (by first | rfl | simp)), Le.eq (by first | rfl | simp), trivial⟩ ⟨⟨_, rfl, LeO.refl _⟩, trivial⟩ rfl (dom0 rfl) ?_
          exact ih.1 l0 a1 x6 (o10 ++ [(rd l0 x6), (rd l0 (wrap64 (x6 + 1)))]) 
      · refine RT.freeze 10 _ _ _ [(4, sq eI o10)] [] rfl rfl ⟨.inr ⟨_, rfl, by first | exact Nat.le_refl _ | simp, rfl⟩, trivial⟩ trivial rfl (dom0 rfl) ?_
        exact RT.done rfl rfl (Le.refl _) trivial rfl (dom0 rfl)
theorem key_closed.ok (k : Nat) (l0 : List Int) (a1 : Int) (r : (List Int)) (h : key_closed.f k l0 a1 = some r) : Ct Tryz.prog B 71 [sq eI l0, .int .i64 a1] (ofL []) (sq eI r) (ofL []) := by
  refine Ct.of (Y := (fam Tryz.f71 [4] [10] [] (fun r : (List Int) => sq eI r) (fun r => []))) Tryz.func71 rfl Tryz.call71 rfl rfl ?_ r h
  unfold key_closed.f
  refine RS.go ?_
  refine RT.brT rfl ?_
  refine RT.br rfl (fun c1 => ?_) (fun c1 => RT.none)
  refine RT.goto rfl ?_
  refine RS.obj 10 (bufE eI [(rd l0 0)]) ⟨_, rfl, LeO.lit (l := [(rd l0 0)]) (cells_of rfl)⟩ ?_
  refine RS.slot 10 (.osl 10 eI.w 0 [(rd l0 0)].length [(rd l0 0)].length) (Le.oslN rfl (by simp)) ?_
  refine RS.go ?_
  refine RT.goto rfl ?_
  refine RS.weak [(0, sq eI l0), (1, .int .i64 a1), (5, .osl 10 eI.w 0 [(rd l0 0)].length [(rd l0 0)].length), (6, .int .i64 1)] [(10, bufE eI [(rd l0 0)])] ⟨Le.eq (by first | rfl | simp), Le.eq (by first | rfl | simp), (by first | exact Le.oslN rfl (by first | rfl | simp) | exact Le.refl _ | exact Le.eq (by first | rfl | simp)), Le.eq (by first | rfl | simp), trivial⟩ ⟨⟨_, rfl, LeO.refl _⟩, trivial⟩ rfl (dom0 rfl) ?_
  exact (key_closed.loops k).2 l0 a1 1 [(rd l0 0)] 
/-! ### key_cleaned: function 70 -/
def key_cleaned.k0 : List DK := [⟨[87, 86], [48], [], [48]⟩, ⟨[71, 73], [48], [87], []⟩, ⟨[75, 85], [], [86], []⟩, ⟨[80, 84], [], [85], []⟩, ⟨[83], [], [84], []⟩, ⟨[81, 82], [], [83], []⟩, ⟨[6], [], [82], []⟩, ⟨[0], [], [81], []⟩, ⟨[79], [], [80], []⟩, ⟨[76, 78], [], [79], []⟩, ⟨[77], [], [78], []⟩, ⟨[6], [], [77], []⟩, ⟨[0], [], [76], []⟩, ⟨[74], [48], [75], []⟩, ⟨[71, 73], [48], [74], []⟩, ⟨[72], [], [73], []⟩, ⟨[7], [], [72], []⟩, ⟨[5], [], [71], []⟩]
def key_cleaned.k1 : List Nat := [0, 0, 2, 7, 15, 0, 0, 64, 224, 480, 0, 0, 3072, 7168, 16352, 32767, 65535, 131071]
def key_cleaned.k2 : List DK := [⟨[107], [], [5], []⟩, ⟨[96, 106], [107, 48], [107], [48]⟩, ⟨[100, 105], [106], [106], []⟩, ⟨[104], [], [105], []⟩, ⟨[101, 103], [], [104], []⟩, ⟨[102], [], [103], []⟩, ⟨[6], [], [102], []⟩, ⟨[0], [], [101], []⟩, ⟨[99], [], [100], []⟩, ⟨[97, 98], [], [99], []⟩, ⟨[6], [], [98], []⟩, ⟨[0], [], [97], []⟩, ⟨[5], [], [96], []⟩]
def key_cleaned.k3 : List Nat := [0, 0, 0, 6, 14, 0, 0, 64, 224, 480, 1022, 2047, 4095]
mutual
def key_cleaned.l2 : Nat → Int → List Int → Int → List Int → List Int → Option ((List Int) × (List Int))
  | 0, _, _, _, _, _ => Option.none
  | k + 1, a1, x0b, x6c, t48c, o48c => (if x6c < (x0b.length : Int) then (if 0 ≤ wrap64 ((o48c.length : Int) - 1) then (if wrap64 ((o48c.length : Int) - 1) < (o48c.length : Int) then (if (rd o48c (wrap64 ((o48c.length : Int) - 1))) < a1 then (if wrap64 ((o48c.length : Int) - 1) > 0 then (if 0 ≤ wrap64 ((o48c.length : Int) - 1) then (if wrap64 ((o48c.length : Int) - 1) ≤ (o48c.length : Int) then (if 0 ≤ wrap64 ((wrap64 ((o48c.length : Int) - 1)) - 1) then (if wrap64 ((wrap64 ((o48c.length : Int) - 1)) - 1) < ((o48c.take (wrap64 ((o48c.length : Int) - 1)).toNat).length : Int) then (if 0 ≤ wrap64 (x6c - 1) then (if wrap64 (x6c - 1) < (x0b.length : Int) then (if 0 ≤ x6c then (if x6c < (x0b.length : Int) then (if 0 ≤ wrap64 ((wrap64 ((o48c.length : Int) - 1)) - 1) then (if wrap64 ((wrap64 ((o48c.length : Int) - 1)) - 1) < ((o48c.take (wrap64 ((o48c.length : Int) - 1)).toNat).length : Int) then (if 0 ≤ wrap64 (x6c + 1) then (if wrap64 (x6c + 1) < (x0b.length : Int) then (if ((o48c.take (wrap64 ((o48c.length : Int) - 1)).toNat).set ((wrap64 ((wrap64 ((o48c.length : Int) - 1)) - 1))).toNat (wrap64 ((rd (o48c.take (wrap64 ((o48c.length : Int) - 1)).toNat) (wrap64 ((wrap64 ((o48c.length : Int) - 1)) - 1))) + (wrap64 ((rd x0b (wrap64 (x6c - 1))) + (rd x0b x6c)))))).length + [(rd x0b (wrap64 (x6c + 1)))].length ≤ 549755813888 then key_cleaned.l2 k a1 x0b (wrap64 (x6c + 2)) (((o48c.drop (wrap64 ((o48c.length : Int) - 1)).toNat) ++ t48c).drop [(rd x0b (wrap64 (x6c + 1)))].length) (((o48c.take (wrap64 ((o48c.length : Int) - 1)).toNat).set ((wrap64 ((wrap64 ((o48c.length : Int) - 1)) - 1))).toNat (wrap64 ((rd (o48c.take (wrap64 ((o48c.length : Int) - 1)).toNat) (wrap64 ((wrap64 ((o48c.length : Int) - 1)) - 1))) + (wrap64 ((rd x0b (wrap64 (x6c - 1))) + (rd x0b x6c)))))) ++ [(rd x0b (wrap64 (x6c + 1)))]) else Option.none) else Option.none) else Option.none) else Option.none) else Option.none) else Option.none) else Option.none) else Option.none) else Option.none) else Option.none) else Option.none) else Option.none) else Option.none) else (if 0 ≤ x6c then (if x6c < (x0b.length : Int) then (if 0 ≤ wrap64 (x6c + 1) then (if wrap64 (x6c + 1) < (x0b.length : Int) then (if o48c.length + [(rd x0b x6c), (rd x0b (wrap64 (x6c + 1)))].length ≤ 549755813888 then key_cleaned.l2 k a1 x0b (wrap64 (x6c + 2)) (t48c.drop [(rd x0b x6c), (rd x0b (wrap64 (x6c + 1)))].length) (o48c ++ [(rd x0b x6c), (rd x0b (wrap64 (x6c + 1)))]) else Option.none) else Option.none) else Option.none) else Option.none) else Option.none)) else (if 0 ≤ x6c then (if x6c < (x0b.length : Int) then (if 0 ≤ wrap64 (x6c + 1) then (if wrap64 (x6c + 1) < (x0b.length : Int) then (if o48c.length + [(rd x0b x6c), (rd x0b (wrap64 (x6c + 1)))].length ≤ 549755813888 then key_cleaned.l2 k a1 x0b (wrap64 (x6c + 2)) (t48c.drop [(rd x0b x6c), (rd x0b (wrap64 (x6c + 1)))].length) (o48c ++ [(rd x0b x6c), (rd x0b (wrap64 (x6c + 1)))]) else Option.none) else Option.none) else Option.none) else Option.none) else Option.none)) else Option.none) else Option.none) else Option.some (o48c, t48c))
def key_cleaned.l1 : Nat → Int → List Int → Option ((List Int) × (List Int))
  | 0, _, _ => Option.none
  | k + 1, a1, x0b => (if (x0b.length : Int) > 0 then (if 0 ≤ wrap64 ((x0b.length : Int) - 1) then (if wrap64 ((x0b.length : Int) - 1) < (x0b.length : Int) then (if (rd x0b (wrap64 ((x0b.length : Int) - 1))) < a1 then (if 0 ≤ mx 0 (wrap64 ((x0b.length : Int) - 2)) then (if mx 0 (wrap64 ((x0b.length : Int) - 2)) ≤ (x0b.length : Int) then key_cleaned.l1 k a1 (x0b.take (mx 0 (wrap64 ((x0b.length : Int) - 2))).toNat) else Option.none) else Option.none) else (if (x0b.length : Int) = 0 then Option.some ([], []) else (if 0 < (x0b.length : Int) then key_cleaned.l2 k a1 x0b 1 ([] : List Int) [(rd x0b 0)] else Option.none))) else Option.none) else Option.none) else (if (x0b.length : Int) = 0 then Option.some ([], []) else (if 0 < (x0b.length : Int) then key_cleaned.l2 k a1 x0b 1 ([] : List Int) [(rd x0b 0)] else Option.none)))
def key_cleaned.l0 : Nat → Int → List Int → Option ((List Int) × (List Int))
  | 0, _, _ => Option.none
  | k + 1, a1, x0 => (if (x0.length : Int) > 0 then (if 0 < (x0.length : Int) then (if (rd x0 0) < a1 then (if 0 ≤ mn 2 (x0.length : Int) then (if mn 2 (x0.length : Int) ≤ (x0.length : Int) then key_cleaned.l0 k a1 (x0.drop (mn 2 (x0.length : Int)).toNat) else Option.none) else Option.none) else key_cleaned.l1 k a1 x0) else Option.none) else key_cleaned.l1 k a1 x0)
end
def key_cleaned.f (k : Nat) (l0 : List Int) (a1 : Int) : Option ((List Int) × (List Int)) := key_cleaned.l0 k a1 l0
theorem key_cleaned.loops : ∀ k, (∀ (a1 : Int) (x0b : List Int) (x6c : Int) (t48c : List Int) (o48c : List Int), RS (fam Tryz.f70 [1000061, 1000070] [48] [] (fun r : (List Int) × (List Int) => .osl 48 eI.w 0 r.1.length (r.1 ++ r.2).length) (fun r => [(48, bufE eI (r.1 ++ r.2))])) (Func.head Tryz.f70 2) ⟨ofT [(0, sq eI x0b), (1, .int .i64 a1), (5, .osl 48 eI.w 0 o48c.length (o48c ++ t48c).length), (6, .int .i64 x6c)], ofL [(48, bufE eI (o48c ++ t48c))]⟩ (key_cleaned.l2 k a1 x0b x6c t48c o48c)) ∧ (∀ (a1 : Int) (x0b : List Int), RS (fam Tryz.f70 [1000061, 1000070] [48] [] (fun r : (List Int) × (List Int) => .osl 48 eI.w 0 r.1.length (r.1 ++ r.2).length) (fun r => [(48, bufE eI (r.1 ++ r.2))])) (Func.head Tryz.f70 1) ⟨ofT [(0, sq eI x0b), (1, .int .i64 a1)], ofL []⟩ (key_cleaned.l1 k a1 x0b)) ∧ (∀ (a1 : Int) (x0 : List Int), RS (fam Tryz.f70 [1000061, 1000070] [48] [] (fun r : (List Int) × (List Int) => .osl 48 eI.w 0 r.1.length (r.1 ++ r.2).length) (fun r => [(48, bufE eI (r.1 ++ r.2))])) (Func.head Tryz.f70 0) ⟨ofT [(0, sq eI x0), (1, .int .i64 a1)], ofL []⟩ (key_cleaned.l0 k a1 x0))
  | 0 => ⟨by intro _ _ _ _ _; simp only [key_cleaned.l2]; exact RS.none, by intro _ _; simp only [key_cleaned.l1]; exact RS.none, by intro _ _; simp only [key_cleaned.l0]; exact RS.none⟩
  | k + 1 => by
    have ih := key_cleaned.loops k
    refine ⟨?_, ?_, ?_⟩
    · intro a1 x0b x6c t48c o48c
      simp only [key_cleaned.l2]
      refine RS.go ?_
      refine RT.br rfl (fun c138 => ?_) (fun c138 => ?_)
      · refine RT.req rfl (by first | exact Nat.zero_add _ | rfl | simp [szf, szOf]) ?_
        refine RT.req rfl (by first | exact Nat.zero_add _ | rfl | simp) ?_
        refine RT.br rfl (fun c110 => ?_) (fun c110 => RT.none)
        refine RT.br rfl (fun c111 => ?_) (fun c111 => RT.none)
        refine RT.req rfl ⟨by first | rfl | simp, elt_lt c110 (le_room2 c111)⟩ ?_
        refine RT.goto rfl ?_
        refine RS.slot 61 (.int .i64 (rd o48c (wrap64 ((o48c.length : Int) - 1)))) (Le.eq (congrArg (AV.int .i64) (rdE_pre (E := eI) c110 c111))) ?_
        refine RS.go ?_
        refine RT.br rfl (fun c137 => ?_) (fun c137 => ?_)
        · refine RT.brT rfl ?_
          refine RT.brT rfl ?_
          refine RT.br rfl (fun c130 => ?_) (fun c130 => ?_)
          · refine RT.req rfl (by first | exact Nat.zero_add _ | rfl | simp) ?_
            refine RT.br rfl (fun c112 => ?_) (fun c112 => RT.none)
            refine RT.when (fun c113 => ?_)
            refine RT.sure rfl (decide_eq_true (by first | exact c113 | exact le_room c113)) ?_
            refine RT.goto rfl ?_
            refine RS.obj 48 (bufE eI ((o48c.take (wrap64 ((o48c.length : Int) - 1)).toNat) ++ ((o48c.drop (wrap64 ((o48c.length : Int) - 1)).toNat) ++ t48c))) ⟨_, rfl, LeO.cut⟩ ?_
            refine RS.slot 70 (.osl 48 eI.w 0 (o48c.take (wrap64 ((o48c.length : Int) - 1)).toNat).length ((o48c.take (wrap64 ((o48c.length : Int) - 1)).toNat) ++ ((o48c.drop (wrap64 ((o48c.length : Int) - 1)).toNat) ++ t48c)).length) (Le.osl2 rfl rfl (len_take c112 c113) len_cut) ?_
            refine RS.go ?_
            refine RT.goto rfl ?_
            refine RS.draw rfl ?_
            refine RD.req rfl (by first | exact Nat.zero_add _ | rfl | simp) ?_
            refine RD.br rfl (fun c114 => ?_) (fun c114 => RD.none)
            refine RD.br rfl (fun c115 => ?_) (fun c115 => RD.none)
            refine RD.req rfl ⟨by first | rfl | simp, elt_lt c114 (le_room2 c115)⟩ ?_
            refine RD.br rfl (fun c116 => ?_) (fun c116 => RD.none)
            refine RD.br rfl (fun c117 => ?_) (fun c117 => RD.none)
            refine RD.br rfl (fun c118 => ?_) (fun c118 => RD.none)
            refine RD.br rfl (fun c119 => ?_) (fun c119 => RD.none)
            refine RD.req rfl (by first | exact Nat.zero_add _ | rfl | simp) ?_
            refine RD.br rfl (fun c120 => ?_) (fun c120 => RD.none)
            refine RD.br rfl (fun c121 => ?_) (fun c121 => RD.none)
            refine RD.req rfl ⟨by first | rfl | simp, elt_lt c120 (le_room2 c121)⟩ ?_
            refine RD.fin key_cleaned.k0 key_cleaned.k1 rfl rfl (by decide +kernel) ?_
            refine RS.obj 48 (bufE eI (((o48c.take (wrap64 ((o48c.length : Int) - 1)).toNat).set ((wrap64 ((wrap64 ((o48c.length : Int) - 1)) - 1))).toNat (wrap64 ((rd (o48c.take (wrap64 ((o48c.length : Int) - 1)).toNat) (wrap64 ((wrap64 ((o48c.length : Int) - 1)) - 1))) + (wrap64 ((rd x0b (wrap64 (x6c - 1))) + (rd x0b x6c)))))) ++ ((o48c.drop (wrap64 ((o48c.length : Int) - 1)).toNat) ++ t48c))) ⟨_, rfl, LeO.setT c120 c121 (all1 (congrArg (fun z => (.int .i64 (wrap64 ((z) + (wrap64 ((rd x0b (wrap64 (x6c - 1))) + (rd x0b x6c))))) : AV)) (rdE_pre (E := eI) (l := (o48c.take (wrap64 ((o48c.length : Int) - 1)).toNat)) (t := ((o48c.drop (wrap64 ((o48c.length : Int) - 1)).toNat) ++ t48c)) c114 c115)))⟩ ?_
            refine RS.slot 5 (.osl 48 eI.w 0 ((o48c.take (wrap64 ((o48c.length : Int) - 1)).toNat).set ((wrap64 ((wrap64 ((o48c.length : Int) - 1)) - 1))).toNat (wrap64 ((rd (o48c.take (wrap64 ((o48c.length : Int) - 1)).toNat) (wrap64 ((wrap64 ((o48c.length : Int) - 1)) - 1))) + (wrap64 ((rd x0b (wrap64 (x6c - 1))) + (rd x0b x6c)))))).length (((o48c.take (wrap64 ((o48c.length : Int) - 1)).toNat).set ((wrap64 ((wrap64 ((o48c.length : Int) - 1)) - 1))).toNat (wrap64 ((rd (o48c.take (wrap64 ((o48c.length : Int) - 1)).toNat) (wrap64 ((wrap64 ((o48c.length : Int) - 1)) - 1))) + (wrap64 ((rd x0b (wrap64 (x6c - 1))) + (rd x0b x6c)))))) ++ ((o48c.drop (wrap64 ((o48c.length : Int) - 1)).toNat) ++ t48c)).length) (Le.osl2 rfl rfl (by simp) (by simp)) ?_
            refine RS.slot 70 (.osl 48 eI.w 0 ((o48c.take (wrap64 ((o48c.length : Int) - 1)).toNat).set ((wrap64 ((wrap64 ((o48c.length : Int) - 1)) - 1))).toNat (wrap64 ((rd (o48c.take (wrap64 ((o48c.length : Int) - 1)).toNat) (wrap64 ((wrap64 ((o48c.length : Int) - 1)) - 1))) + (wrap64 ((rd x0b (wrap64 (x6c - 1))) + (rd x0b x6c)))))).length (((o48c.take (wrap64 ((o48c.length : Int) - 1)).toNat).set ((wrap64 ((wrap64 ((o48c.length : Int) - 1)) - 1))).toNat (wrap64 ((rd (o48c.take (wrap64 ((o48c.length : Int) - 1)).toNat) (wrap64 ((wrap64 ((o48c.length : Int) - 1)) - 1))) + (wrap64 ((rd x0b (wrap64 (x6c - 1))) + (rd x0b x6c)))))) ++ ((o48c.drop (wrap64 ((o48c.length : Int) - 1)).toNat) ++ t48c)).length) (Le.osl2 rfl rfl (by simp) (by simp)) ?_
            refine RS.slot 71 (.osl 48 eI.w 0 ((o48c.take (wrap64 ((o48c.length : Int) - 1)).toNat).set ((wrap64 ((wrap64 ((o48c.length : Int) - 1)) - 1))).toNat (wrap64 ((rd (o48c.take (wrap64 ((o48c.length : Int) - 1)).toNat) (wrap64 ((wrap64 ((o48c.length : Int) - 1)) - 1))) + (wrap64 ((rd x0b (wrap64 (x6c - 1))) + (rd x0b x6c)))))).length (((o48c.take (wrap64 ((o48c.length : Int) - 1)).toNat).set ((wrap64 ((wrap64 ((o48c.length : Int) - 1)) - 1))).toNat (wrap64 ((rd (o48c.take (wrap64 ((o48c.length : Int) - 1)).toNat) (wrap64 ((wrap64 ((o48c.length : Int) - 1)) - 1))) + (wrap64 ((rd x0b (wrap64 (x6c - 1))) + (rd x0b x6c)))))) ++ ((o48c.drop (wrap64 ((o48c.length : Int) - 1)).toNat) ++ t48c)).length) (Le.osl2 rfl rfl (by simp) (by simp)) ?_
            refine RS.go ?_
            refine RT.br rfl (fun c122 => ?_) (fun c122 => RT.none)
            refine RT.br rfl (fun c123 => ?_) (fun c123 => RT.none)
            refine RT.goto rfl ?_
            refine RS.slot 94 (sq eI [(rd x0b (wrap64 (x6c + 1)))]) (Le.lit (E := eI) (l := [(rd x0b (wrap64 (x6c + 1)))]) (cells_of rfl)) ?_
            refine RS.go ?_
            refine RT.req rfl ⟨by first | rfl | simp, by first | rfl | simp⟩ ?_
            refine RT.appD (E := eI) (l := (o48c.take (wrap64 ((o48c.length : Int) - 1)).toNat).set ((wrap64 ((wrap64 ((o48c.length : Int) - 1)) - 1))).toNat (wrap64 ((rd (o48c.take (wrap64 ((o48c.length : Int) - 1)).toNat) (wrap64 ((wrap64 ((o48c.length : Int) - 1)) - 1))) + (wrap64 ((rd x0b (wrap64 (x6c - 1))) + (rd x0b x6c)))))) (t := (o48c.drop (wrap64 ((o48c.length : Int) - 1)).toNat) ++ t48c) (m := [(rd x0b (wrap64 (x6c + 1)))]) rfl (fun _ _ _ _ => rfl) ?_
            refine RS.go ?_
            refine RT.goto rfl ?_
            refine RS.weak [(0, sq eI x0b), (1, .int .i64 a1), (5, .osl 48 eI.w 0 (((o48c.take (wrap64 ((o48c.length : Int) - 1)).toNat).set ((wrap64 ((wrap64 ((o48c.length : Int) - 1)) - 1))).toNat (wrap64 ((rd (o48c.take (wrap64 ((o48c.length : Int) - 1)).toNat) (wrap64 ((wrap64 ((o48c.length : Int) - 1)) - 1))) + (wrap64 ((rd x0b (wrap64 (x6c - 1))) + (rd x0b x6c)))))) ++ [(rd x0b (wrap64 (x6c + 1)))]).length ((((o48c.take (wrap64 ((o48c.length : Int) - 1)).toNat).set ((wrap64 ((wrap64 ((o48c.length : Int) - 1)) - 1))).toNat (wrap64 ((rd (o48c.take (wrap64 ((o48c.length : Int) - 1)).toNat) (wrap64 ((wrap64 ((o48c.length : Int) - 1)) - 1))) + (wrap64 ((rd x0b (wrap64 (x6c - 1))) + (rd x0b x6c)))))) ++ [(rd x0b (wrap64 (x6c + 1)))]) ++ (((o48c.drop (wrap64 ((o48c.length : Int) - 1)).toNat) ++ t48c).drop [(rd x0b (wrap64 (x6c + 1)))].length)).length), (6, .int .i64 (wrap64 (x6c + 2)))] [(48, bufE eI ((((o48c.take (wrap64 ((o48c.length : Int) - 1)).toNat).set ((wrap64 ((wrap64 ((o48c.length : Int) - 1)) - 1))).toNat (wrap64 ((rd (o48c.take (wrap64 ((o48c.length : Int) - 1)).toNat) (wrap64 ((wrap64 ((o48c.length : Int) - 1)) - 1))) + (wrap64 ((rd x0b (wrap64 (x6c - 1))) + (rd x0b x6c)))))) ++ [(rd x0b (wrap64 (x6c + 1)))]) ++ (((o48c.drop (wrap64 ((o48c.length : Int) - 1)).toNat) ++ t48c).drop [(rd x0b (wrap64 (x6c + 1)))].length)))] ⟨Le.eq (by first | rfl | simp), Le.eq (by first | rfl | simp), Le.osl2 rfl rfl (by first | rfl | simp) (by first | rfl | simp), Le.eq (by first | rfl | simp), trivial⟩ ⟨⟨_, rfl, by first | exact LeO.refl _ | exact LeO.room0⟩, trivial⟩ rfl (dom0 rfl) ?_
            exact ih.1 a1 x0b (wrap64 (x6c + 2)) (((o48c.drop (wrap64 ((o48c.length : Int) - 1)).toNat) ++ t48c).drop [(rd x0b (wrap64 (x6c + 1)))].length) (((o48c.take (wrap64 ((o48c.length : Int) - 1)).toNat).set ((wrap64 ((wrap64 ((o48c.length : Int) - 1)) - 1))).toNat (wrap64 ((rd (o48c.take (wrap64 ((o48c.length : Int) - 1)).toNat) (wrap64 ((wrap64 ((o48c.length : Int) - 1)) - 1))) + (wrap64 ((rd x0b (wrap64 (x6c - 1))) + (rd x0b x6c)))))) ++ [(rd x0b (wrap64 (x6c + 1)))]) 
          · refine RT.goto rfl ?_
            refine RS.draw rfl ?_
            refine RD.br rfl (fun c124 => ?_) (fun c124 => RD.none)
            refine RD.br rfl (fun c125 => ?_) (fun c125 => RD.none)
            refine RD.br rfl (fun c126 => ?_) (fun c126 => RD.none)
            refine RD.br rfl (fun c127 => ?_) (fun c127 => RD.none)
            refine RD.iff (fun c128 => ?_)
            refine RD.req rfl ⟨by first | rfl | simp, by first | rfl | simp⟩ ?_
            refine RD.ifG rfl (fun c129 => ?_) (fun c129 => ?_)
            · refine RD.fin key_cleaned.k2 key_cleaned.k3 rfl rfl (by decide +kernel) ?_
              refine RS.obj 48 (bufE eI ((o48c ++ [(rd x0b x6c), (rd x0b (wrap64 (x6c + 1)))]) ++ (t48c.drop [(rd x0b x6c), (rd x0b (wrap64 (x6c + 1)))].length))) ⟨_, rfl, LeO.appIn (l := o48c) (t := t48c) (m := [(rd x0b x6c), (rd x0b (wrap64 (x6c + 1)))]) (of_decide_eq_true c129) (cells_of rfl)⟩ ?_
              refine RS.slot 5 (.osl 48 eI.w 0 (o48c ++ [(rd x0b x6c), (rd x0b (wrap64 (x6c + 1)))]).length ((o48c ++ [(rd x0b x6c), (rd x0b (wrap64 (x6c + 1)))]) ++ (t48c.drop [(rd x0b x6c), (rd x0b (wrap64 (x6c + 1)))].length)).length) (Le.osl2 rfl rfl (by simp) (len_appIn (l := o48c) (t := t48c) (m := [(rd x0b x6c), (rd x0b (wrap64 (x6c + 1)))]) (of_decide_eq_true c129))) ?_
              refine RS.slot 107 (.osl 48 eI.w 0 (o48c ++ [(rd x0b x6c), (rd x0b (wrap64 (x6c + 1)))]).length ((o48c ++ [(rd x0b x6c), (rd x0b (wrap64 (x6c + 1)))]) ++ (t48c.drop [(rd x0b x6c), (rd x0b (wrap64 (x6c + 1)))].length)).length) (Le.osl2 rfl rfl (by simp) (len_appIn (l := o48c) (t := t48c) (m := [(rd x0b x6c), (rd x0b (wrap64 (x6c + 1)))]) (of_decide_eq_true c129))) ?_
              refine RS.go ?_
              refine RT.goto rfl ?_
              refine RS.weak [(0, sq eI x0b), (1, .int .i64 a1), (5, .osl 48 eI.w 0 (o48c ++ [(rd x0b x6c), (rd x0b (wrap64 (x6c + 1)))]).length ((o48c ++ [(rd x0b x6c), (rd x0b (wrap64 (x6c + 1)))]) ++ (t48c.drop [(rd x0b x6c), (rd x0b (wrap64 (x6c + 1)))].length)).length), (6, .int .i64 (wrap64 (x6c + 2)))] [(48, bufE eI ((o48c ++ [(rd x0b x6c), (rd x0b (wrap64 (x6c + 1)))]) ++ (t48c.drop [(rd x0b x6c), (rd x0b (wrap64 (x6c + 1)))].length)))] ⟨Le.eq (by first | rfl | simp), Le.eq (by first | rfl | simp), Le.osl2 rfl rfl (by first | rfl | simp) (by first | rfl | simp), Le.eq (by first | rfl | simp), trivial⟩ ⟨⟨_, rfl, by first | exact LeO.refl _ | exact LeO.room0⟩, trivial⟩ rfl (dom0 rfl) ?_
              exact ih.1 a1 x0b (wrap64 (x6c + 2)) (t48c.drop [(rd x0b x6c), (rd x0b (wrap64 (x6c + 1)))].length) (o48c ++ [(rd x0b x6c), (rd x0b (wrap64 (x6c + 1)))]) 
            · refine RD.sure rfl (by simpa using c128) ?_
              refine RD.fin key_cleaned.k2 key_cleaned.k3 rfl rfl (by decide +kernel) ?_
              refine RS.obj 48 (bufE eI ((o48c ++ [(rd x0b x6c), (rd x0b (wrap64 (x6c + 1)))]) ++ (t48c.drop [(rd x0b x6c), (rd x0b (wrap64 (x6c + 1)))].length))) ⟨_, rfl, LeO.out (drop_out (m := [(rd x0b x6c), (rd x0b (wrap64 (x6c + 1)))].length) (of_decide_eq_false c129)) (LeO.appR (l := o48c) (t := t48c) (m := [(rd x0b x6c), (rd x0b (wrap64 (x6c + 1)))]) (cells_of rfl))⟩ ?_
              refine RS.slot 5 (.osl 48 eI.w 0 (o48c ++ [(rd x0b x6c), (rd x0b (wrap64 (x6c + 1)))]).length ((o48c ++ [(rd x0b x6c), (rd x0b (wrap64 (x6c + 1)))]) ++ (t48c.drop [(rd x0b x6c), (rd x0b (wrap64 (x6c + 1)))].length)).length) (Le.osl2 rfl rfl (by simp) (by rw [drop_out (m := [(rd x0b x6c), (rd x0b (wrap64 (x6c + 1)))].length) (of_decide_eq_false c129)]; simp)) ?_
              refine RS.slot 107 (.osl 48 eI.w 0 (o48c ++ [(rd x0b x6c), (rd x0b (wrap64 (x6c + 1)))]).length ((o48c ++ [(rd x0b x6c), (rd x0b (wrap64 (x6c + 1)))]) ++ (t48c.drop [(rd x0b x6c), (rd x0b (wrap64 (x6c + 1)))].length)).length) (Le.osl2 rfl rfl (by simp) (by rw [drop_out (m := [(rd x0b x6c), (rd x0b (wrap64 (x6c + 1)))].length) (of_decide_eq_false c129)]; simp)) ?_
              refine RS.go ?_
              refine RT.goto rfl ?_
              refine RS.weak [(0, sq eI x0b), (1, .int .i64 a1), (5, .osl 48 eI.w 0 (o48c ++ [(rd x0b x6c), (rd x0b (wrap64 (x6c + 1)))]).length ((o48c ++ [(rd x0b x6c), (rd x0b (wrap64 (x6c + 1)))]) ++ (t48c.drop [(rd x0b x6c), (rd x0b (wrap64 (x6c + 1)))].length)).length), (6, .int .i64 (wrap64 (x6c + 2)))] [(48, bufE eI ((o48c ++ [(rd x0b x6c), (rd x0b (wrap64 (x6c + 1)))]) ++ (t48c.drop [(rd x0b x6c), (rd x0b (wrap64 (x6c + 1)))].length)))] ⟨Le.eq (by first | rfl | simp), Le.eq (by first | rfl | simp), Le.osl2 rfl rfl (by first | rfl | simp) (by first | rfl | simp), Le.eq (by first | rfl | simp), trivial⟩ ⟨⟨_, rfl, by first | exact LeO.refl _ | exact LeO.room0⟩, trivial⟩ rfl (dom0 rfl) ?_
              exact ih.1 a1 x0b (wrap64 (x6c + 2)) (t48c.drop [(rd x0b x6c), (rd x0b (wrap64 (x6c + 1)))].length) (o48c ++ [(rd x0b x6c), (rd x0b (wrap64 (x6c + 1)))]) 
        · refine RT.brF rfl ?_
          refine RT.brF rfl ?_
          refine RT.brF rfl ?_
          refine RT.goto rfl ?_
          refine RS.draw rfl ?_
          refine RD.br rfl (fun c131 => ?_) (fun c131 => RD.none)
          refine RD.br rfl (fun c132 => ?_) (fun c132 => RD.none)
          refine RD.br rfl (fun c133 => ?_) (fun c133 => RD.none)
          refine RD.br rfl (fun c134 => ?_) (fun c134 => RD.none)
          refine RD.iff (fun c135 => ?_)
          refine RD.req rfl ⟨by first | rfl | simp, by first | rfl | simp⟩ ?_
          refine RD.ifG rfl (fun c136 => ?_) (fun c136 => ?_)
          · refine RD.fin key_cleaned.k2 key_cleaned.k3 rfl rfl (by decide +kernel) ?_
            refine RS.obj 48 (bufE eI ((o48c ++ [(rd x0b x6c), (rd x0b (wrap64 (x6c + 1)))]) ++ (t48c.drop [(rd x0b x6c), (rd x0b (wrap64 (x6c + 1)))].length))) ⟨_, rfl, LeO.appIn (l := o48c) (t := t48c) (m := [(rd x0b x6c), (rd x0b (wrap64 (x6c + 1)))]) (of_decide_eq_true c136) (cells_of rfl)⟩ ?_
            refine RS.slot 5 (.osl 48 eI.w 0 (o48c ++ [(rd x0b x6c), (rd x0b (wrap64 (x6c + 1)))]).length ((o48c ++ [(rd x0b x6c), (rd x0b (wrap64 (x6c + 1)))]) ++ (t48c.drop [(rd x0b x6c), (rd x0b (wrap64 (x6c + 1)))].length)).length) (Le.osl2 rfl rfl (by simp) (len_appIn (l := o48c) (t := t48c) (m := [(rd x0b x6c), (rd x0b (wrap64 (x6c + 1)))]) (of_decide_eq_true c136))) ?_
            refine RS.slot 107 (.osl 48 eI.w 0 (o48c ++ [(rd x0b x6c), (rd x0b (wrap64 (x6c + 1)))]).length ((o48c ++ [(rd x0b x6c), (rd x0b (wrap64 (x6c + 1)))]) ++ (t48c.drop [(rd x0b x6c), (rd x0b (wrap64 (x6c + 1)))].length)).length) (Le.osl2 rfl rfl (by simp) (len_appIn (l := o48c) (t := t48c) (m := [(rd x0b x6c), (rd x0b (wrap64 (x6c + 1)))]) (of_decide_eq_true c136))) ?_
            refine RS.go ?_
            refine RT.goto rfl ?_
            refine RS.weak [(0, sq eI x0b), (1, .int .i64 a1), (5, .osl 48 eI.w 0 (o48c ++ [(rd x0b x6c), (rd x0b (wrap64 (x6c + 1)))]).length ((o48c ++ [(rd x0b x6c), (rd x0b (wrap64 (x6c + 1)))]) ++ (t48c.drop [(rd x0b x6c), (rd x0b (wrap64 (x6c + 1)))].length)).length), (6, .int .i64 (wrap64 (x6c + 2)))] [(48, bufE eI ((o48c ++ [(rd x0b x6c), (rd x0b (wrap64 (x6c + 1)))]) ++ (t48c.drop [(rd x0b x6c), (rd x0b (wrap64 (x6c + 1)))].length)))] ⟨Le.eq (by first | rfl | simp), Le.eq (by first | rfl | simp), Le.osl2 rfl rfl (by first | rfl | simp) (by first | rfl | simp), Le.eq (by first | rfl | simp), trivial⟩ ⟨⟨_, rfl, by first | exact LeO.refl _ | exact LeO.room0⟩, trivial⟩ rfl (dom0 rfl) ?_
            exact ih.1 a1 x0b (wrap64 (x6c + 2)) (t48c.drop [(rd x0b x6c), (rd x0b (wrap64 (x6c + 1)))].length) (o48c ++ [(rd x0b x6c), (rd x0b (wrap64 (x6c + 1)))]) 
          · refine RD.sure rfl (by simpa using c135) ?_
            refine RD.fin key_cleaned.k2 key_cleaned.k3 rfl rfl (by decide +kernel) ?_
            refine RS.obj 48 (bufE eI ((o48c ++ [(rd x0b x6c), (rd x0b (wrap64 (x6c + 1)))]) ++ (t48c.drop [(rd x0b x6c), (rd x0b (wrap64 (x6c + 1)))].length))) ⟨_, rfl, LeO.out (drop_out (m := [(rd x0b x6c), (rd x0b (wrap64 (x6c + 1)))].length) (of_decide_eq_false c136)) (LeO.appR (l := o48c) (t := t48c) (m := [(rd x0b x6c), (rd x0b (wrap64 (x6c + 1)))]) (cells_of rfl))⟩ ?_
            refine RS.slot 5 (.osl 48 eI.w 0 (o48c ++ [(rd x0b x6c), (rd x0b (wrap64 (x6c + 1)))]).length ((o48c ++ [(rd x0b x6c), (rd x0b (wrap64 (x6c + 1)))]) ++ (t48c.drop [(rd x0b x6c), (rd x0b (wrap64 (x6c + 1)))].length)).length) (Le.osl2 rfl rfl (by simp) (by rw [drop_out (m := [(rd x0b x6c), (rd x0b (wrap64 (x6c + 1)))].length) (of_decide_eq_false c136)]; simp)) ?_
            refine RS.slot 107 (.osl 48 eI.w 0 (o48c ++ [(rd x0b x6c), (rd x0b (wrap64 (x6c + 1)))]).length ((o48c ++ [(rd x0b x6c), (rd x0b (wrap64 (x6c + 1)))]) ++ (t48c.drop [(rd x0b x6c), (rd x0b (wrap64 (x6c + 1)))].length)).length) (Le.osl2 rfl rfl (by simp) (by rw [drop_out (m := [(rd x0b x6c), (rd x0b (wrap64 (x6c + 1)))].length) (of_decide_eq_false c136)]; simp)) ?_
            refine RS.go ?_
            refine RT.goto rfl ?_
            refine RS.weak [(0, sq eI x0b), (1, .int .i64 a1), (5, .osl 48 eI.w 0 (o48c ++ [(rd x0b x6c), (rd x0b (wrap64 (x6c + 1)))]).length ((o48c ++ [(rd x0b x6c), (rd x0b (wrap64 (x6c + 1)))]) ++ (t48c.drop [(rd x0b x6c), (rd x0b (wrap64 (x6c + 1)))].length)).length), (6, .int .i64 (wrap64 (x6c + 2)))] [(48, bufE eI ((o48c ++ [(rd x0b x6c), (rd x0b (wrap64 (x6c + 1)))]) ++ (t48c.drop [(rd x0b x6c), (rd x0b (wrap64 (x6c + 1)))].length)))] ⟨Le.eq (by first | rfl | simp), Le.eq (by first | rfl | simp), Le.osl2 rfl rfl (by first | rfl | simp) (by first | rfl | simp), Le.eq (by first | rfl | simp), trivial⟩ ⟨⟨_, rfl, by first | exact LeO.refl _ | exact LeO.room0⟩, trivial⟩ rfl (dom0 rfl) ?_
            exact ih.1 a1 x0b (wrap64 (x6c + 2)) (t48c.drop [(rd x0b x6c), (rd x0b (wrap64 (x6c + 1)))].length) (o48c ++ [(rd x0b x6c), (rd x0b (wrap64 (x6c + 1)))]) 
      · exact RT.done rfl rfl (Le.refl _) ⟨⟨_, rfl, by first | exact LeO.refl _ | exact LeO.room0⟩, trivial⟩ rfl (dom0 rfl)
    · intro a1 x0b
      simp only [key_cleaned.l1]
      refine RS.go ?_
      refine RT.br rfl (fun c140 => ?_) (fun c140 => ?_)
      · refine RT.brT rfl ?_
        refine RT.brT rfl ?_
        refine RT.brT rfl ?_
        refine RT.brT rfl ?_
        refine RT.br rfl (fun c73 => ?_) (fun c73 => RT.none)
        refine RT.br rfl (fun c74 => ?_) (fun c74 => RT.none)
        refine RT.brT rfl ?_
        refine RT.brT rfl ?_
        refine RT.brT rfl ?_
        refine RT.brT rfl ?_
        refine RT.br rfl (fun c108 => ?_) (fun c108 => ?_)
        · refine RT.br rfl (fun c75 => ?_) (fun c75 => RT.none)
          refine RT.br rfl (fun c76 => ?_) (fun c76 => RT.none)
          refine RT.goto rfl ?_
          refine RS.slot 41 (sq eI (x0b.take (mx 0 (wrap64 ((x0b.length : Int) - 2))).toNat)) (Le.head (by first | omega | assumption) (by first | omega | assumption)) ?_
          refine RS.go ?_
          refine RT.goto rfl ?_
          refine RS.weak [(0, sq eI (x0b.take (mx 0 (wrap64 ((x0b.length : Int) - 2))).toNat)), (1, .int .i64 a1)] [] ⟨Le.eq (by first | rfl | simp), Le.eq (by first | rfl | simp), trivial⟩ trivial rfl (dom0 rfl) ?_
          exact ih.2.1 a1 (x0b.take (mx 0 (wrap64 ((x0b.length : Int) - 2))).toNat) 
        · refine RT.br rfl (fun c107 => ?_) (fun c107 => ?_)
          · refine RT.ghost 4 48 eI.w (rep eI []) rfl rfl rfl ?_
            exact RT.done rfl rfl (Le.refl _) ⟨⟨_, rfl, by first | exact LeO.refl _ | exact LeO.room0⟩, trivial⟩ rfl (dom0 rfl)
          · refine RT.brT rfl ?_
            refine RT.br rfl (fun c77 => ?_) (fun c77 => RT.none)
            refine RT.goto rfl ?_
            refine RS.obj 48 (bufE eI [(rd x0b 0)]) ⟨_, rfl, LeO.lit (l := [(rd x0b 0)]) (cells_of rfl)⟩ ?_
            refine RS.slot 48 (.osl 48 eI.w 0 [(rd x0b 0)].length [(rd x0b 0)].length) (Le.oslN rfl (by simp)) ?_
            refine RS.go ?_
            refine RT.goto rfl ?_
            refine RS.weak [(0, sq eI x0b), (1, .int .i64 a1), (5, .osl 48 eI.w 0 [(rd x0b 0)].length ([(rd x0b 0)] ++ ([] : List Int)).length), (6, .int .i64 1)] [(48, bufE eI ([(rd x0b 0)] ++ ([] : List Int)))] ⟨Le.eq (by first | rfl | simp), Le.eq (by first | rfl | simp), Le.osl2 rfl rfl (by first | rfl | simp) (by first | rfl | simp), Le.eq (by first | rfl | simp), trivial⟩ ⟨⟨_, rfl, by first | exact LeO.refl _ | exact LeO.room0⟩, trivial⟩ rfl (dom0 rfl) ?_
            exact ih.1 a1 x0b 1 ([] : List Int) [(rd x0b 0)] 
      · refine RT.brF rfl ?_
        refine RT.brF rfl ?_
        refine RT.brF rfl ?_
        refine RT.brF rfl ?_
        refine RT.brF rfl ?_
        refine RT.brF rfl ?_
        refine RT.brF rfl ?_
        refine RT.brF rfl ?_
        refine RT.brF rfl ?_
        refine RT.br rfl (fun c139 => ?_) (fun c139 => ?_)
        · refine RT.ghost 4 48 eI.w (rep eI []) rfl rfl rfl ?_
          exact RT.done rfl rfl (Le.refl _) ⟨⟨_, rfl, by first | exact LeO.refl _ | exact LeO.room0⟩, trivial⟩ rfl (dom0 rfl)
        · refine RT.brT rfl ?_
          refine RT.br rfl (fun c109 => ?_) (fun c109 => RT.none)
          refine RT.goto rfl ?_
          refine RS.obj 48 (bufE eI [(rd x0b 0)]) ⟨_, rfl, LeO.lit (l := [(rd x0b 0)]) (cells_of rfl)⟩ ?_
          refine RS.slot 48 (.osl 48 eI.w 0 [(rd x0b 0)].length [(rd x0b 0)].length) (Le.oslN rfl (by simp)) ?_
          refine RS.go ?_
          refine RT.goto rfl ?_
          refine RS.weak [(0, sq eI x0b), (1, .int .i64 a1), (5, .osl 48 eI.w 0 [(rd x0b 0)].length ([(rd x0b 0)] ++ ([] : List Int)).length), (6, .int .i64 1)] [(48, bufE eI ([(rd x0b 0)] ++ ([] : List Int)))] ⟨Le.eq (by first | rfl | simp), Le.eq (by first | rfl | simp), Le.osl2 rfl rfl (by first | rfl | simp) (by first | rfl | simp), Le.eq (by first | rfl | simp), trivial⟩ ⟨⟨_, rfl, by first | exact LeO.refl _ | exact LeO.room0⟩, trivial⟩ rfl (dom0 rfl) ?_
          exact ih.1 a1 x0b 1 ([] : List Int) [(rd x0b 0)] 
    · intro a1 x0
      simp only [key_cleaned.l0]
      refine RS.go ?_
      refine RT.br rfl (fun c141 => ?_) (fun c141 => ?_)
      · refine RT.brT rfl ?_
        refine RT.brT rfl ?_
        refine RT.br rfl (fun c1 => ?_) (fun c1 => RT.none)
        refine RT.brT rfl ?_
        refine RT.brT rfl ?_
        refine RT.brT rfl ?_
        refine RT.brT rfl ?_
        refine RT.br rfl (fun c72 => ?_) (fun c72 => ?_)
        · refine RT.br rfl (fun c2 => ?_) (fun c2 => RT.none)
          refine RT.br rfl (fun c3 => ?_) (fun c3 => RT.none)
          refine RT.goto rfl ?_
          refine RS.slot 22 (sq eI (x0.drop (mn 2 (x0.length : Int)).toNat)) (Le.tail (by first | omega | assumption) (by first | omega | assumption)) ?_
          refine RS.go ?_
          refine RT.goto rfl ?_
          refine RS.weak [(0, sq eI (x0.drop (mn 2 (x0.length : Int)).toNat)), (1, .int .i64 a1)] [] ⟨Le.eq (by first | rfl | simp), Le.eq (by first | rfl | simp), trivial⟩ trivial rfl (dom0 rfl) ?_
          exact ih.2.2 a1 (x0.drop (mn 2 (x0.length : Int)).toNat) 
        · refine RT.goto rfl ?_
          refine RS.weak [(0, sq eI x0), (1, .int .i64 a1)] [] ⟨Le.eq (by first | rfl | simp), Le.eq (by first | rfl | simp), trivial⟩ trivial rfl (dom0 rfl) ?_
          exact ih.2.1 a1 x0 
      · refine RT.brF rfl ?_
        refine RT.brF rfl ?_
        refine RT.brF rfl ?_
        refine RT.brF rfl ?_
        refine RT.brF rfl ?_
        refine RT.brF rfl ?_
        refine RT.goto rfl ?_
        refine RS.weak [(0, sq eI x0), (1, .int .i64 a1)] [] ⟨Le.eq (by first | rfl | simp), Le.eq (by first | rfl | simp), trivial⟩ trivial rfl (dom0 rfl) ?_
        exact ih.2.1 a1 x0 
theorem key_cleaned.ok (k : Nat) (l0 : List Int) (a1 : Int) (r : (List Int) × (List Int)) (h : key_cleaned.f k l0 a1 = some r) : Ct Tryz.prog B 70 [sq eI l0, .int .i64 a1] (ofL []) (.osl 48 eI.w 0 r.1.length (r.1 ++ r.2).length) (ofL [(48, bufE eI (r.1 ++ r.2))]) := by
  refine Ct.of (Y := (fam Tryz.f70 [1000061, 1000070] [48] [] (fun r : (List Int) × (List Int) => .osl 48 eI.w 0 r.1.length (r.1 ++ r.2).length) (fun r => [(48, bufE eI (r.1 ++ r.2))]))) Tryz.func70 rfl Tryz.call70 rfl rfl ?_ r h
  unfold key_cleaned.f
  refine RS.go ?_
  refine RT.goto rfl ?_
  refine RS.weak [(0, sq eI l0), (1, .int .i64 a1)] [] ⟨Le.eq (by first | rfl | simp), Le.eq (by first | rfl | simp), trivial⟩ trivial rfl (dom0 rfl) ?_
  exact (key_cleaned.loops k).2.2 a1 l0 
/-! ### key_Clean_1: function 73 -/
def key_Clean_1.f (a0 : Int) : Option (Bool) := Option.some (decide (a0 > 100000))
theorem key_Clean_1.ok (a0 : Int) (r : Bool) (h : key_Clean_1.f a0 = some r) : Ct Tryz.prog B 73 [.int .i64 a0] (ofL []) (.bool r) (ofL []) := by
  refine Ct.of (Y := (fam Tryz.f73 [] [] [] (fun r : Bool => .bool r) (fun r => []))) Tryz.func73 rfl Tryz.call73 rfl rfl ?_ r h
  unfold key_Clean_1.f
  refine RS.go ?_
  exact RT.done rfl rfl (Le.refl _) trivial rfl (dom0 rfl)
/-! ### slices_IndexFunc_int_int_of_key_Clean_1: function 128 -/
def slices_IndexFunc_int_int_of_key_Clean_1.l0 : Nat → List Int → Int → Option (Int)
  | 0, _, _ => Option.none
  | k + 1, l0, x8 => (if x8 < (l0.length : Int) then (if 0 ≤ x8 then (if x8 < (l0.length : Int) then ((key_Clean_1.f (rd l0 x8)).bind fun r3 => (if r3 = true then Option.some x8 else slices_IndexFunc_int_int_of_key_Clean_1.l0 k l0 (wrap64 (x8 + 1)))) else Option.none) else Option.none) else Option.some (-1))
def slices_IndexFunc_int_int_of_key_Clean_1.f (k : Nat) (l0 : List Int) : Option (Int) := slices_IndexFunc_int_int_of_key_Clean_1.l0 k l0 0
theorem slices_IndexFunc_int_int_of_key_Clean_1.loops : ∀ k, (∀ (l0 : List Int) (x8 : Int), RS (fam Tryz.f128 [] [] [] (fun r : Int => .int .i64 r) (fun r => [])) (Func.head Tryz.f128 0) ⟨ofT [(0, sq eI l0), (1, .fn 73 []), (7, .int .i64 (l0.length : Int)), (8, .int .i64 x8)], ofL []⟩ (slices_IndexFunc_int_int_of_key_Clean_1.l0 k l0 x8))
  | 0 => by intro _ _; simp only [slices_IndexFunc_int_int_of_key_Clean_1.l0]; exact RS.none
  | k + 1 => by
    have ih := slices_IndexFunc_int_int_of_key_Clean_1.loops k
    · intro l0 x8
      simp only [slices_IndexFunc_int_int_of_key_Clean_1.l0]
      refine RS.go ?_
      refine RT.br rfl (fun c5 => ?_) (fun c5 => ?_)
      · refine RT.br rfl (fun c1 => ?_) (fun c1 => RT.none)
        refine RT.br rfl (fun c2 => ?_) (fun c2 => RT.none)
        refine RT.call0 rfl (fun _ h => key_Clean_1.ok (rd l0 x8) _ h) (LeL.eq rfl) (fun _ => rfl) (fun r3 => ?_)
        refine RS.go ?_
        refine RT.brB rfl (fun c4 => ?_) (fun c4 => ?_)
        · exact RT.done rfl rfl (Le.refl _) trivial rfl (dom0 rfl)
        · refine RT.goto rfl ?_
          refine RS.weak [(0, sq eI l0), (1, .fn 73 []), (7, .int .i64 (l0.length : Int)), (8, .int .i64 (wrap64 (x8 + 1)))] [] ⟨Le.eq (by first | rfl | simp), Le.eq (by first | rfl | simp), Le.eq (by first | rfl | simp), Le.eq (by first | rfl | simp), trivial⟩ trivial rfl (dom0 rfl) ?_
          exact ih l0 (wrap64 (x8 + 1)) 
      · exact RT.done rfl rfl (Le.refl _) trivial rfl (dom0 rfl)
theorem slices_IndexFunc_int_int_of_key_Clean_1.ok (k : Nat) (l0 : List Int) (r : Int) (h : slices_IndexFunc_int_int_of_key_Clean_1.f k l0 = some r) : Ct Tryz.prog B 128 [sq eI l0, .fn 73 []] (ofL []) (.int .i64 r) (ofL []) := by
  refine Ct.of (Y := (fam Tryz.f128 [] [] [] (fun r : Int => .int .i64 r) (fun r => []))) Tryz.func128 rfl Tryz.call128 rfl rfl ?_ r h
  unfold slices_IndexFunc_int_int_of_key_Clean_1.f
  refine RS.go ?_
  refine RT.goto rfl ?_
  refine RS.weak [(0, sq eI l0), (1, .fn 73 []), (7, .int .i64 (l0.length : Int)), (8, .int .i64 0)] [] ⟨Le.eq (by first | rfl | simp), Le.eq (by first | rfl | simp), Le.eq (by first | rfl | simp), Le.eq (by first | rfl | simp), trivial⟩ trivial rfl (dom0 rfl) ?_
  exact slices_IndexFunc_int_int_of_key_Clean_1.loops k l0 0 
/-! ### slices_ContainsFunc_int_int_of_key_Clean_1: function 72 -/
def slices_ContainsFunc_int_int_of_key_Clean_1.f (k : Nat) (l0 : List Int) : Option (Bool) := ((slices_IndexFunc_int_int_of_key_Clean_1.f k l0).bind fun r1 => Option.some (decide (r1 ≥ 0)))
theorem slices_ContainsFunc_int_int_of_key_Clean_1.ok (k : Nat) (l0 : List Int) (r : Bool) (h : slices_ContainsFunc_int_int_of_key_Clean_1.f k l0 = some r) : Ct Tryz.prog B 72 [sq eI l0, .fn 73 []] (ofL []) (.bool r) (ofL []) := by
  refine Ct.of (Y := (fam Tryz.f72 [] [] [] (fun r : Bool => .bool r) (fun r => []))) Tryz.func72 rfl Tryz.call72 rfl rfl ?_ r h
  unfold slices_ContainsFunc_int_int_of_key_Clean_1.f
  refine RS.go ?_
  refine RT.call0 rfl (fun _ h => slices_IndexFunc_int_int_of_key_Clean_1.ok k l0 _ h) (LeL.eq rfl) (fun _ => rfl) (fun r1 => ?_)
  refine RS.go ?_
  exact RT.done rfl rfl (Le.refl _) trivial rfl (dom0 rfl)
/-! ### key_Clean: function 17 -/
def key_Clean.f (k : Nat) (l0 : List Int) (a1 : Int) : Option ((List Int) × (List Int) × Int) := ((key_CheckMarks.f k l0).bind fun r1 => (if r1 = 0 then ((kit_Outside.f a1 1 100000).bind fun r2 => (if r2 = true then Option.some ([], [], 1) else ((key_closed.f k l0 a1).bind fun r3 => ((key_cleaned.f k r3 a1).bind fun r4 => (if (r4.1.length : Int) = 0 then Option.none else ((slices_ContainsFunc_int_int_of_key_Clean_1.f k r4.1).bind fun r5 => (if r5 = true then Option.none else Option.some (r4.1, r4.2, 0)))))))) else Option.some ([], [], r1)))
theorem key_Clean.ok (k : Nat) (l0 : List Int) (a1 : Int) (r : (List Int) × (List Int) × Int) (h : key_Clean.f k l0 a1 = some r) : Ct Tryz.prog B 17 [sq eI l0, .int .i64 a1] (ofL []) (.tup [.osl 19 eI.w 0 r.1.length (r.1 ++ r.2.1).length, .int .i64 r.2.2]) (ofL [(19, bufE eI (r.1 ++ r.2.1))]) := by
  refine Ct.of (Y := (fam Tryz.f17 [] [] [] (fun r : (List Int) × (List Int) × Int => .tup [.osl 19 eI.w 0 r.1.length (r.1 ++ r.2.1).length, .int .i64 r.2.2]) (fun r => [(19, bufE eI (r.1 ++ r.2.1))]))) Tryz.func17 rfl Tryz.call17 rfl rfl ?_ r h
  unfold key_Clean.f
  refine RS.go ?_
  refine RT.call0 rfl (fun _ h => key_CheckMarks.ok k l0 _ h) (LeL.eq rfl) (fun _ => rfl) (fun r1 => ?_)
  refine RS.go ?_
  refine RT.brN rfl (fun c9 => ?_) (fun c9 => ?_)
  · refine RT.call0 rfl (fun _ h => kit_Outside.ok a1 1 100000 _ h) (LeL.eq rfl) (fun _ => rfl) (fun r2 => ?_)
    refine RS.go ?_
    refine RT.brB rfl (fun c8 => ?_) (fun c8 => ?_)
    · refine RT.ghost 4 19 eI.w (rep eI []) rfl rfl rfl ?_
      exact RT.done rfl rfl (Le.tup (LeL.cons (Le.refl _) (LeL.cons (Le.refl _) (LeL.nil)))) ⟨⟨_, rfl, by first | exact LeO.refl _ | exact LeO.room0⟩, trivial⟩ rfl (dom0 rfl)
    · refine RT.call0 rfl (fun _ h => key_closed.ok k l0 a1 _ h) (LeL.eq rfl) (fun _ => rfl) (fun r3 => ?_)
      refine RS.go ?_
      refine RT.call rfl (fun _ h => key_cleaned.ok k r3 a1 _ h) (fun i => bif Nat.beq i 48 then 19 else i) (LeL.eq rfl) trivial (fun _ => rfl) (fun r4 => ?_)
      refine RS.go ?_
      refine RT.req rfl (by first | exact Nat.zero_add _ | rfl | simp [szf, szOf]) ?_
      refine RT.br rfl (fun c7 => ?_) (fun c7 => ?_)
      · exact RT.none
      · refine RT.callRO 19 rfl (fun _ h => slices_ContainsFunc_int_int_of_key_Clean_1.ok k r4.1 _ h) rfl ⟨.inr ⟨_, rfl, by simp, Le.pre⟩, ⟨.inl ⟨(Le.refl _), rfl⟩, trivial⟩⟩ rfl (fun _ => ⟨_, rfl⟩) (fun r5 => ?_)
        refine RS.go ?_
        refine RT.brB rfl (fun c6 => ?_) (fun c6 => ?_)
        · exact RT.none
        · exact RT.done rfl rfl (Le.tup (LeL.cons (Le.refl _) (LeL.cons (Le.refl _) (LeL.nil)))) ⟨⟨_, rfl, by first | exact LeO.refl _ | exact LeO.room0⟩, trivial⟩ rfl (dom0 rfl)
  · refine RT.ghost 4 19 eI.w (rep eI []) rfl rfl rfl ?_
    exact RT.done rfl rfl (Le.tup (LeL.cons (Le.refl _) (LeL.cons (Le.refl _) (LeL.nil)))) ⟨⟨_, rfl, by first | exact LeO.refl _ | exact LeO.room0⟩, trivial⟩ rfl (dom0 rfl)
/-! ### key_unitFault: function 57 -/
def key_unitFault.f (k : Nat) (l0 : List Int) (a1 : Int) : Option (Int) := ((key_CheckMarks.f k l0).bind fun r1 => (if r1 = 0 then ((kit_Outside.f a1 1 2000).bind fun r2 => (if r2 = true then Option.some 1 else Option.some 0)) else Option.some r1))
theorem key_unitFault.ok (k : Nat) (l0 : List Int) (a1 : Int) (r : Int) (h : key_unitFault.f k l0 a1 = some r) : Ct Tryz.prog B 57 [sq eI l0, .int .i64 a1] (ofL []) (.int .i64 r) (ofL []) := by
  refine Ct.of (Y := (fam Tryz.f57 [] [] [] (fun r : Int => .int .i64 r) (fun r => []))) Tryz.func57 rfl Tryz.call57 rfl rfl ?_ r h
  unfold key_unitFault.f
  refine RS.go ?_
  refine RT.call0 rfl (fun _ h => key_CheckMarks.ok k l0 _ h) (LeL.eq rfl) (fun _ => rfl) (fun r1 => ?_)
  refine RS.go ?_
  refine RT.brN rfl (fun c4 => ?_) (fun c4 => ?_)
  · refine RT.call0 rfl (fun _ h => kit_Outside.ok a1 1 2000 _ h) (LeL.eq rfl) (fun _ => rfl) (fun r2 => ?_)
    refine RS.go ?_
    refine RT.brB rfl (fun c3 => ?_) (fun c3 => ?_)
    · exact RT.done rfl rfl (Le.refl _) trivial rfl (dom0 rfl)
    · exact RT.done rfl rfl (Le.refl _) trivial rfl (dom0 rfl)
  · exact RT.done rfl rfl (Le.refl _) trivial rfl (dom0 rfl)
/-! ### key_isMark: function 75 -/
def key_isMark.f (a0 : Int) : Option (Bool) := Option.some (decide (Int.tmod a0 2 = 0))
theorem key_isMark.ok (a0 : Int) (r : Bool) (h : key_isMark.f a0 = some r) : Ct Tryz.prog B 75 [.int .i64 a0] (ofL []) (.bool r) (ofL []) := by
  refine Ct.of (Y := (fam Tryz.f75 [] [] [] (fun r : Bool => .bool r) (fun r => []))) Tryz.func75 rfl Tryz.call75 rfl rfl ?_ r h
  unfold key_isMark.f
  refine RS.go ?_
  refine RT.brF rfl ?_
  exact RT.done rfl rfl (Le.refl _) trivial rfl (dom0 rfl)
/-! ### key_nearest: function 74 -/
mutual
def key_nearest.j11 : Nat → Int → Int → List Int → Int → Int → Int → Option (Int × Int)
  | 0, _, _, _, _, _, _ => Option.none
  | k + 1, a0, a1, x8j4, x18, x6j11, x7j11 => key_nearest.l0 k a0 a1 x8j4 x6j11 x7j11 (wrap64 (x18 + 1))
def key_nearest.l0 : Nat → Int → Int → List Int → Int → Int → Int → Option (Int × Int)
  | 0, _, _, _, _, _, _ => Option.none
  | k + 1, a0, a1, x8j4, x6, x7, x18 => (if x18 < (x8j4.length : Int) then (if 0 ≤ x18 then (if x18 < (x8j4.length : Int) then (if x7 < 0 then key_nearest.j11 k a0 a1 x8j4 x18 (rd x8j4 x18) (mx (wrap64 (a0 - (wrap64 ((rd x8j4 x18) * a1)))) (wrap64 ((wrap64 ((rd x8j4 x18) * a1)) - a0))) else (if mx (wrap64 (a0 - (wrap64 ((rd x8j4 x18) * a1)))) (wrap64 ((wrap64 ((rd x8j4 x18) * a1)) - a0)) < x7 then key_nearest.j11 k a0 a1 x8j4 x18 (rd x8j4 x18) (mx (wrap64 (a0 - (wrap64 ((rd x8j4 x18) * a1)))) (wrap64 ((wrap64 ((rd x8j4 x18) * a1)) - a0))) else key_nearest.j11 k a0 a1 x8j4 x18 x6 x7)) else Option.none) else Option.none) else Option.some (x6, x7))
def key_nearest.j4 : Nat → Int → Int → List Int → Option (Int × Int)
  | 0, _, _, _ => Option.none
  | k + 1, a0, a1, x8j4 => key_nearest.l0 k a0 a1 x8j4 0 (-1) 0
end
def key_nearest.f (k : Nat) (a0 : Int) (a1 : Int) (a2 : Bool) : Option (Int × Int) := (if a2 = true then (if 2 ≤ ([1, 3, 7].length : Int) then key_nearest.j4 k a0 a1 ([1, 3, 7].take 2) else Option.none) else key_nearest.j4 k a0 a1 [1, 3, 7])
theorem key_nearest.loops : ∀ k, (∀ (a0 : Int) (a1 : Int) (x8j4 : List Int) (x18 : Int) (x6j11 : Int) (x7j11 : Int), RS (fam Tryz.f74 [4, 11] [] [] (fun r : Int × Int => .tup [.int .i64 r.1, .int .i64 r.2]) (fun r => [])) (Func.reg Tryz.f74 11) ⟨ofT [(0, .int .i64 a0), (1, .int .i64 a1), (6, .int .i64 x6j11), (7, .int .i64 x7j11), (16, sq eI x8j4), (17, .int .i64 (x8j4.length : Int)), (18, .int .i64 x18)], ofL []⟩ (key_nearest.j11 k a0 a1 x8j4 x18 x6j11 x7j11)) ∧ (∀ (a0 : Int) (a1 : Int) (x8j4 : List Int) (x6 : Int) (x7 : Int) (x18 : Int), RS (fam Tryz.f74 [4, 11] [] [] (fun r : Int × Int => .tup [.int .i64 r.1, .int .i64 r.2]) (fun r => [])) (Func.head Tryz.f74 0) ⟨ofT [(0, .int .i64 a0), (1, .int .i64 a1), (6, .int .i64 x6), (7, .int .i64 x7), (16, sq eI x8j4), (17, .int .i64 (x8j4.length : Int)), (18, .int .i64 x18)], ofL []⟩ (key_nearest.l0 k a0 a1 x8j4 x6 x7 x18)) ∧ (∀ (a0 : Int) (a1 : Int) (x8j4 : List Int), RS (fam Tryz.f74 [4, 11] [] [] (fun r : Int × Int => .tup [.int .i64 r.1, .int .i64 r.2]) (fun r => [])) (Func.reg Tryz.f74 4) ⟨ofT [(0, .int .i64 a0), (1, .int .i64 a1), (6, .int .i64 0), (8, sq eI x8j4)], ofL []⟩ (key_nearest.j4 k a0 a1 x8j4))
  | 0 => ⟨by intro _ _ _ _ _ _; simp only [key_nearest.j11]; exact RS.none, by intro _ _ _ _ _ _; simp only [key_nearest.l0]; exact RS.none, by intro _ _ _; simp only [key_nearest.j4]; exact RS.none⟩
  | k + 1 => by
    have ih := key_nearest.loops k
    refine ⟨?_, ?_, ?_⟩
    · intro a0 a1 x8j4 x18 x6j11 x7j11
      simp only [key_nearest.j11]
      refine RS.region ?_
      refine RS.go ?_
      refine RT.goto rfl ?_
      refine RS.weak [(0, .int .i64 a0), (1, .int .i64 a1), (6, .int .i64 x6j11), (7, .int .i64 x7j11), (16, sq eI x8j4), (17, .int .i64 (x8j4.length : Int)), (18, .int .i64 (wrap64 (x18 + 1)))] [] ⟨Le.eq (by first | rfl | simp), Le.eq (by first | rfl | simp), Le.eq (by first | rfl | simp), Le.eq (by first | rfl | simp), Le.eq (by first | rfl | simp), Le.eq (by first | rfl | simp), Le.eq (by first | rfl | simp), trivial⟩ trivial rfl (dom0 rfl) ?_
      exact ih.2.1 a0 a1 x8j4 x6j11 x7j11 (wrap64 (x18 + 1)) 
    · intro a0 a1 x8j4 x6 x7 x18
      simp only [key_nearest.l0]
      refine RS.go ?_
      refine RT.br rfl (fun c6 => ?_) (fun c6 => ?_)
      · refine RT.br rfl (fun c2 => ?_) (fun c2 => RT.none)
        refine RT.br rfl (fun c3 => ?_) (fun c3 => RT.none)
        refine RT.br rfl (fun c5 => ?_) (fun c5 => ?_)
        · refine RT.brT rfl ?_
          refine RT.brT rfl ?_
          refine RT.brT rfl ?_
          refine RT.brT rfl ?_
          refine RT.goto rfl ?_
          refine RS.weak [(0, .int .i64 a0), (1, .int .i64 a1), (6, .int .i64 (rd x8j4 x18)), (7, .int .i64 (mx (wrap64 (a0 - (wrap64 ((rd x8j4 x18) * a1)))) (wrap64 ((wrap64 ((rd x8j4 x18) * a1)) - a0)))), (16, sq eI x8j4), (17, .int .i64 (x8j4.length : Int)), (18, .int .i64 x18)] [] ⟨Le.eq (by first | rfl | simp), Le.eq (by first | rfl | simp), Le.eq (by first | rfl | simp), Le.eq (by first | rfl | simp), Le.eq (by first | rfl | simp), Le.eq (by first | rfl | simp), Le.eq (by first | rfl | simp), trivial⟩ trivial rfl (dom0 rfl) ?_
          exact ih.1 a0 a1 x8j4 x18 (rd x8j4 x18) (mx (wrap64 (a0 - (wrap64 ((rd x8j4 x18) * a1)))) (wrap64 ((wrap64 ((rd x8j4 x18) * a1)) - a0))) 
        · refine RT.brF rfl ?_
          refine RT.brF rfl ?_
          refine RT.brF rfl ?_
          refine RT.br rfl (fun c4 => ?_) (fun c4 => ?_)
          · refine RT.goto rfl ?_
            refine RS.weak [(0, .int .i64 a0), (1, .int .i64 a1), (6, .int .i64 (rd x8j4 x18)), (7, .int .i64 (mx (wrap64 (a0 - (wrap64 ((rd x8j4 x18) * a1)))) (wrap64 ((wrap64 ((rd x8j4 x18) * a1)) - a0)))), (16, sq eI x8j4), (17, .int .i64 (x8j4.length : Int)), (18, .int .i64 x18)] [] ⟨Le.eq (by first | rfl | simp), Le.eq (by first | rfl | simp), Le.eq (by first | rfl | simp), Le.eq (by first | rfl | simp), Le.eq (by first | rfl | simp), Le.eq (by first | rfl | simp), Le.eq (by first | rfl | simp), trivial⟩ trivial rfl (dom0 rfl) ?_
            exact ih.1 a0 a1 x8j4 x18 (rd x8j4 x18) (mx (wrap64 (a0 - (wrap64 ((rd x8j4 x18) * a1)))) (wrap64 ((wrap64 ((rd x8j4 x18) * a1)) - a0))) 
          · refine RT.goto rfl ?_
            refine RS.weak [(0, .int .i64 a0), (1, .int .i64 a1), (6, .int .i64 x6), (7, .int .i64 x7), (16, sq eI x8j4), (17, .int .i64 (x8j4.length : Int)), (18, .int .i64 x18)] [] ⟨Le.eq (by first | rfl | simp), Le.eq (by first | rfl | simp), Le.eq (by first | rfl | simp), Le.eq (by first | rfl | simp), Le.eq (by first | rfl | simp), Le.eq (by first | rfl | simp), Le.eq (by first | rfl | simp), trivial⟩ trivial rfl (dom0 rfl) ?_
            exact ih.1 a0 a1 x8j4 x18 x6 x7 
      · exact RT.done rfl rfl (Le.tup (LeL.cons (Le.refl _) (LeL.cons (Le.refl _) (LeL.nil)))) trivial rfl (dom0 rfl)
    · intro a0 a1 x8j4
      simp only [key_nearest.j4]
      refine RS.region ?_
      refine RS.go ?_
      refine RT.goto rfl ?_
      refine RS.weak [(0, .int .i64 a0), (1, .int .i64 a1), (6, .int .i64 0), (7, .int .i64 (-1)), (16, sq eI x8j4), (17, .int .i64 (x8j4.length : Int)), (18, .int .i64 0)] [] ⟨Le.eq (by first | rfl | simp), Le.eq (by first | rfl | simp), Le.eq (by first | rfl | simp), Le.eq (by first | rfl | simp), Le.eq (by first | rfl | simp), Le.eq (by first | rfl | simp), Le.eq (by first | rfl | simp), trivial⟩ trivial rfl (dom0 rfl) ?_
      exact ih.2.1 a0 a1 x8j4 0 (-1) 0 
theorem key_nearest.ok (k : Nat) (a0 : Int) (a1 : Int) (a2 : Bool) (r : Int × Int) (h : key_nearest.f k a0 a1 a2 = some r) : Ct Tryz.prog B 74 [.int .i64 a0, .int .i64 a1, .bool a2] (ofL []) (.tup [.int .i64 r.1, .int .i64 r.2]) (ofL []) := by
  refine Ct.of (Y := (fam Tryz.f74 [4, 11] [] [] (fun r : Int × Int => .tup [.int .i64 r.1, .int .i64 r.2]) (fun r => []))) Tryz.func74 rfl Tryz.call74 rfl rfl ?_ r h
  unfold key_nearest.f
  refine RS.go ?_
  refine RT.goto rfl ?_
  refine RS.slot 12 (sq eI [1, 3, 7]) (Le.lit (E := eI) (l := [1, 3, 7]) (cells_of rfl)) ?_
  refine RS.go ?_
  refine RT.brB rfl (fun c7 => ?_) (fun c7 => ?_)
  · refine RT.brT rfl ?_
    refine RT.br rfl (fun c1 => ?_) (fun c1 => RT.none)
    refine RT.goto rfl ?_
    refine RS.slot 15 (sq eI ([1, 3, 7].take 2)) (Le.head (by first | omega | assumption) (by first | omega | assumption)) ?_
    refine RS.go ?_
    refine RT.goto rfl ?_
    refine RS.weak [(0, .int .i64 a0), (1, .int .i64 a1), (6, .int .i64 0), (8, sq eI ([1, 3, 7].take 2))] [] ⟨Le.eq (by first | rfl | simp), Le.eq (by first | rfl | simp), Le.eq (by first | rfl | simp), Le.eq (by first | rfl | simp), trivial⟩ trivial rfl (dom0 rfl) ?_
    exact (key_nearest.loops k).2.2 a0 a1 ([1, 3, 7].take 2) 
  · refine RT.goto rfl ?_
    refine RS.weak [(0, .int .i64 a0), (1, .int .i64 a1), (6, .int .i64 0), (8, sq eI [1, 3, 7])] [] ⟨Le.eq (by first | rfl | simp), Le.eq (by first | rfl | simp), Le.eq (by first | rfl | simp), Le.eq (by first | rfl | simp), trivial⟩ trivial rfl (dom0 rfl) ?_
    exact (key_nearest.loops k).2.2 a0 a1 [1, 3, 7] 
/-! ### key_Uneven: function 18 -/
mutual
def key_Uneven.j11 : Nat → List Int → Int → Int → List Int → Option ((List Int) × Int)
  | 0, _, _, _, _ => Option.none
  | k + 1, l0, a1, x20, o7j11 => key_Uneven.l0 k l0 a1 (wrap64 (x20 + 1)) o7j11
def key_Uneven.l0 : Nat → List Int → Int → Int → List Int → Option ((List Int) × Int)
  | 0, _, _, _, _ => Option.none
  | k + 1, l0, a1, x20, o7 => (if x20 < (l0.length : Int) then (if 0 ≤ x20 then (if x20 < (l0.length : Int) then ((key_isMark.f x20).bind fun r4 => ((key_nearest.f k (rd l0 x20) a1 r4).bind fun r5 => (if wrap64 (2 * r5.2) > a1 then (if o7.length + 1 ≤ 549755813888 then key_Uneven.j11 k l0 a1 x20 (o7 ++ [x20]) else Option.none) else key_Uneven.j11 k l0 a1 x20 o7))) else Option.none) else Option.none) else Option.some (o7, 0))
end
def key_Uneven.f (k : Nat) (l0 : List Int) (a1 : Int) : Option ((List Int) × Int) := ((key_unitFault.f k l0 a1).bind fun r1 => (if r1 = 0 then key_Uneven.l0 k l0 a1 0 [] else Option.some ([], r1)))
theorem key_Uneven.loops : ∀ k, (∀ (l0 : List Int) (a1 : Int) (x20 : Int) (o7j11 : List Int), RS (fam Tryz.f18 [11] [] [] (fun r : (List Int) × Int => .tup [.osl 7 eI.w 0 r.1.length r.1.length, .int .i64 r.2]) (fun r => [(7, bufE eI r.1)])) (Func.reg Tryz.f18 11) ⟨ofT [(1, .int .i64 a1), (7, .osl 7 eI.w 0 o7j11.length o7j11.length), (18, sq eI l0), (19, .int .i64 (l0.length : Int)), (20, .int .i64 x20)], ofL [(7, bufE eI o7j11)]⟩ (key_Uneven.j11 k l0 a1 x20 o7j11)) ∧ (∀ (l0 : List Int) (a1 : Int) (x20 : Int) (o7 : List Int), RS (fam Tryz.f18 [11] [] [] (fun r : (List Int) × Int => .tup [.osl 7 eI.w 0 r.1.length r.1.length, .int .i64 r.2]) (fun r => [(7, bufE eI r.1)])) (Func.head Tryz.f18 0) ⟨ofT [(1, .int .i64 a1), (7, .osl 7 eI.w 0 o7.length o7.length), (18, sq eI l0), (19, .int .i64 (l0.length : Int)), (20, .int .i64 x20)], ofL [(7, bufE eI o7)]⟩ (key_Uneven.l0 k l0 a1 x20 o7))
  | 0 => ⟨by intro _ _ _ _; simp only [key_Uneven.j11]; exact RS.none, by intro _ _ _ _; simp only [key_Uneven.l0]; exact RS.none⟩
  | k + 1 => by
    have ih := key_Uneven.loops k
    refine ⟨?_, ?_⟩
    · intro l0 a1 x20 o7j11
      simp only [key_Uneven.j11]
      refine RS.region ?_
      refine RS.go ?_
      refine RT.goto rfl ?_
      refine RS.weak [(1, .int .i64 a1), (7, .osl 7 eI.w 0 o7j11.length o7j11.length), (18, sq eI l0), (19, .int .i64 (l0.length : Int)), (20, .int .i64 (wrap64 (x20 + 1)))] [(7, bufE eI o7j11)] ⟨Le.eq (by first | rfl | simp), (by first | exact Le.oslN rfl (by first | rfl | simp) | exact Le.refl _ | exact Le.eq (by first | rfl | simp)), Le.eq (by first | rfl | simp), Le.eq (by first | rfl | simp), Le.eq (by first | rfl | simp), trivial⟩ ⟨⟨_, rfl, LeO.refl _⟩, trivial⟩ rfl (dom0 rfl) ?_
      exact ih.2 l0 a1 (wrap64 (x20 + 1)) o7j11 
    · intro l0 a1 x20 o7
      simp only [key_Uneven.l0]
      refine RS.go ?_
      refine RT.br rfl (fun c8 => ?_) (fun c8 => ?_)
      · refine RT.br rfl (fun c2 => ?_) (fun c2 => RT.none)
        refine RT.br rfl (fun c3 => ?_) (fun c3 => RT.none)
        refine RT.call0 rfl (fun _ h => key_isMark.ok x20 _ h) (LeL.eq rfl) (fun _ => rfl) (fun r4 => ?_)
        refine RS.go ?_
        refine RT.call0 rfl (fun _ h => key_nearest.ok k (rd l0 x20) a1 r4 _ h) (LeL.eq rfl) (fun _ => rfl) (fun r5 => ?_)
        refine RS.go ?_
        refine RT.br rfl (fun c7 => ?_) (fun c7 => ?_)
        · refine RT.goto rfl ?_
          refine RS.slot 39 (sq eI [x20]) (Le.lit (E := eI) (l := [x20]) (cells_of rfl)) ?_
          refine RS.go ?_
          refine RT.req rfl ⟨by first | rfl | simp, by first | exact Nat.le_refl _ | simp⟩ ?_
          refine RT.not rfl (by simp <;> omega) ?_
          refine RT.br rfl (fun c6 => ?_) (fun _ => RT.none)
          refine RT.goto rfl ?_
          refine RS.obj 7 (bufE eI (o7 ++ [x20])) ⟨_, rfl, LeO.app (l := o7) (m := [x20]) fun _ _ _ _ => rfl⟩ ?_
          refine RS.slot 40 (.osl 7 eI.w 0 (o7 ++ [x20]).length (o7 ++ [x20]).length) (by first | exact Le.oslN rfl (by simp) | exact Le.trans (y := .osl 7 eI.w 0 (o7.length + 1) (o7.length + 1)) (Le.refl _) (Le.oslN rfl (by simp))) ?_
          refine RS.go ?_
          refine RT.goto rfl ?_
          refine RS.weak [(1, .int .i64 a1), (7, .osl 7 eI.w 0 (o7 ++ [x20]).length (o7 ++ [x20]).length), (18, sq eI l0), (19, .int .i64 (l0.length : Int)), (20, .int .i64 x20)] [(7, bufE eI (o7 ++ [x20]))] ⟨Le.eq (by first | rfl | simp), (by first | exact Le.oslN rfl (by first | rfl | simp) | exact Le.refl _ | exact Le.eq (by first | rfl | simp)), Le.eq (by first | rfl | simp), Le.eq (by first | rfl | simp), Le.eq (by first | rfl | simp), trivial⟩ ⟨⟨_, rfl, LeO.refl _⟩, trivial⟩ rfl (dom0 rfl) ?_
          exact ih.1 l0 a1 x20 (o7 ++ [x20]) 
        · refine RT.goto rfl ?_
          refine RS.weak [(1, .int .i64 a1), (7, .osl 7 eI.w 0 o7.length o7.length), (18, sq eI l0), (19, .int .i64 (l0.length : Int)), (20, .int .i64 x20)] [(7, bufE eI o7)] ⟨Le.eq (by first | rfl | simp), (by first | exact Le.oslN rfl (by first | rfl | simp) | exact Le.refl _ | exact Le.eq (by first | rfl | simp)), Le.eq (by first | rfl | simp), Le.eq (by first | rfl | simp), Le.eq (by first | rfl | simp), trivial⟩ ⟨⟨_, rfl, LeO.refl _⟩, trivial⟩ rfl (dom0 rfl) ?_
          exact ih.1 l0 a1 x20 o7 
      · exact RT.done rfl rfl (Le.tup (LeL.cons (Le.refl _) (LeL.cons (Le.refl _) (LeL.nil)))) ⟨⟨_, rfl, LeO.refl _⟩, trivial⟩ rfl (dom0 rfl)
theorem key_Uneven.ok (k : Nat) (l0 : List Int) (a1 : Int) (r : (List Int) × Int) (h : key_Uneven.f k l0 a1 = some r) : Ct Tryz.prog B 18 [sq eI l0, .int .i64 a1] (ofL []) (.tup [.osl 7 eI.w 0 r.1.length r.1.length, .int .i64 r.2]) (ofL [(7, bufE eI r.1)]) := by
  refine Ct.of (Y := (fam Tryz.f18 [11] [] [] (fun r : (List Int) × Int => .tup [.osl 7 eI.w 0 r.1.length r.1.length, .int .i64 r.2]) (fun r => [(7, bufE eI r.1)]))) Tryz.func18 rfl Tryz.call18 rfl rfl ?_ r h
  unfold key_Uneven.f
  refine RS.go ?_
  refine RT.call0 rfl (fun _ h => key_unitFault.ok k l0 a1 _ h) (LeL.eq rfl) (fun _ => rfl) (fun r1 => ?_)
  refine RS.go ?_
  refine RT.brN rfl (fun c9 => ?_) (fun c9 => ?_)
  · refine RT.goto rfl ?_
    refine RS.ghost 7 7 eI.w (rep eI []) rfl rfl ?_
    refine RS.weak [(1, .int .i64 a1), (7, .osl 7 eI.w 0 ([] : List Int).length ([] : List Int).length), (18, sq eI l0), (19, .int .i64 (l0.length : Int)), (20, .int .i64 0)] [(7, bufE eI ([] : List Int))] ⟨Le.eq (by first | rfl | simp), (by first | exact Le.oslN rfl (by first | rfl | simp) | exact Le.refl _ | exact Le.eq (by first | rfl | simp)), Le.eq (by first | rfl | simp), Le.eq (by first | rfl | simp), Le.eq (by first | rfl | simp), trivial⟩ ⟨⟨_, rfl, LeO.refl _⟩, trivial⟩ rfl (dom0 rfl) ?_
    exact (key_Uneven.loops k).2 l0 a1 0 [] 
  · refine RT.ghost 4 7 eI.w (rep eI []) rfl rfl rfl ?_
    exact RT.done rfl rfl (Le.tup (LeL.cons (Le.refl _) (LeL.cons (Le.refl _) (LeL.nil)))) ⟨⟨_, rfl, LeO.refl _⟩, trivial⟩ rfl (dom0 rfl)
/-! ### key_offOf: function 59 -/
mutual
def key_offOf.j9 : Nat → List Int → Int → Int → Int → Int → Option (Int)
  | 0, _, _, _, _, _ => Option.none
  | k + 1, l0, a1, x5, x11, x8j9 => key_offOf.l0 k l0 a1 (wrap64 (x5 + x8j9)) (wrap64 (x11 + 1))
def key_offOf.l0 : Nat → List Int → Int → Int → Int → Option (Int)
  | 0, _, _, _, _ => Option.none
  | k + 1, l0, a1, x5, x11 => (if x11 < (l0.length : Int) then (if 0 ≤ x11 then (if x11 < (l0.length : Int) then ((key_isMark.f x11).bind fun r3 => (if r3 = true then key_offOf.j9 k l0 a1 x5 x11 (mn (mx (wrap64 ((rd l0 x11) - a1)) (wrap64 (a1 - (rd l0 x11)))) (mx (wrap64 ((rd l0 x11) - (wrap64 (3 * a1)))) (wrap64 ((wrap64 (3 * a1)) - (rd l0 x11))))) else key_offOf.j9 k l0 a1 x5 x11 (mn (mn (mx (wrap64 ((rd l0 x11) - a1)) (wrap64 (a1 - (rd l0 x11)))) (mx (wrap64 ((rd l0 x11) - (wrap64 (3 * a1)))) (wrap64 ((wrap64 (3 * a1)) - (rd l0 x11))))) (mx (wrap64 ((rd l0 x11) - (wrap64 (7 * a1)))) (wrap64 ((wrap64 (7 * a1)) - (rd l0 x11))))))) else Option.none) else Option.none) else Option.some x5)
end
def key_offOf.f (k : Nat) (l0 : List Int) (a1 : Int) : Option (Int) := key_offOf.l0 k l0 a1 0 0
theorem key_offOf.loops : ∀ k, (∀ (l0 : List Int) (a1 : Int) (x5 : Int) (x11 : Int) (x8j9 : Int), RS (fam Tryz.f59 [9] [] [] (fun r : Int => .int .i64 r) (fun r => [])) (Func.reg Tryz.f59 9) ⟨ofT [(1, .int .i64 a1), (5, .int .i64 x5), (8, .int .i64 x8j9), (9, sq eI l0), (10, .int .i64 (l0.length : Int)), (11, .int .i64 x11)], ofL []⟩ (key_offOf.j9 k l0 a1 x5 x11 x8j9)) ∧ (∀ (l0 : List Int) (a1 : Int) (x5 : Int) (x11 : Int), RS (fam Tryz.f59 [9] [] [] (fun r : Int => .int .i64 r) (fun r => [])) (Func.head Tryz.f59 0) ⟨ofT [(1, .int .i64 a1), (5, .int .i64 x5), (9, sq eI l0), (10, .int .i64 (l0.length : Int)), (11, .int .i64 x11)], ofL []⟩ (key_offOf.l0 k l0 a1 x5 x11))
  | 0 => ⟨by intro _ _ _ _ _; simp only [key_offOf.j9]; exact RS.none, by intro _ _ _ _; simp only [key_offOf.l0]; exact RS.none⟩
  | k + 1 => by
    have ih := key_offOf.loops k
    refine ⟨?_, ?_⟩
    · intro l0 a1 x5 x11 x8j9
      simp only [key_offOf.j9]
      refine RS.region ?_
      refine RS.go ?_
      refine RT.goto rfl ?_
      refine RS.weak [(1, .int .i64 a1), (5, .int .i64 (wrap64 (x5 + x8j9))), (9, sq eI l0), (10, .int .i64 (l0.length : Int)), (11, .int .i64 (wrap64 (x11 + 1)))] [] ⟨Le.eq (by first | rfl | simp), Le.eq (by first | rfl | simp), Le.eq (by first | rfl | simp), Le.eq (by first | rfl | simp), Le.eq (by first | rfl | simp), trivial⟩ trivial rfl (dom0 rfl) ?_
      exact ih.2 l0 a1 (wrap64 (x5 + x8j9)) (wrap64 (x11 + 1)) 
    · intro l0 a1 x5 x11
      simp only [key_offOf.l0]
      refine RS.go ?_
      refine RT.br rfl (fun c5 => ?_) (fun c5 => ?_)
      · refine RT.br rfl (fun c1 => ?_) (fun c1 => RT.none)
        refine RT.br rfl (fun c2 => ?_) (fun c2 => RT.none)
        refine RT.call0 rfl (fun _ h => key_isMark.ok x11 _ h) (LeL.eq rfl) (fun _ => rfl) (fun r3 => ?_)
        refine RS.go ?_
        refine RT.brBN rfl (fun c4 => ?_) (fun c4 => ?_)
        · refine RT.goto rfl ?_
          refine RS.weak [(1, .int .i64 a1), (5, .int .i64 x5), (8, .int .i64 (mn (mx (wrap64 ((rd l0 x11) - a1)) (wrap64 (a1 - (rd l0 x11)))) (mx (wrap64 ((rd l0 x11) - (wrap64 (3 * a1)))) (wrap64 ((wrap64 (3 * a1)) - (rd l0 x11)))))), (9, sq eI l0), (10, .int .i64 (l0.length : Int)), (11, .int .i64 x11)] [] ⟨Le.eq (by first | rfl | simp), Le.eq (by first | rfl | simp), Le.eq (by first | rfl | simp), Le.eq (by first | rfl | simp), Le.eq (by first | rfl | simp), Le.eq (by first | rfl | simp), trivial⟩ trivial rfl (dom0 rfl) ?_
          exact ih.1 l0 a1 x5 x11 (mn (mx (wrap64 ((rd l0 x11) - a1)) (wrap64 (a1 - (rd l0 x11)))) (mx (wrap64 ((rd l0 x11) - (wrap64 (3 * a1)))) (wrap64 ((wrap64 (3 * a1)) - (rd l0 x11))))) 
        · refine RT.goto rfl ?_
          refine RS.weak [(1, .int .i64 a1), (5, .int .i64 x5), (8, .int .i64 (mn (mn (mx (wrap64 ((rd l0 x11) - a1)) (wrap64 (a1 - (rd l0 x11)))) (mx (wrap64 ((rd l0 x11) - (wrap64 (3 * a1)))) (wrap64 ((wrap64 (3 * a1)) - (rd l0 x11))))) (mx (wrap64 ((rd l0 x11) - (wrap64 (7 * a1)))) (wrap64 ((wrap64 (7 * a1)) - (rd l0 x11)))))), (9, sq eI l0), (10, .int .i64 (l0.length : Int)), (11, .int .i64 x11)] [] ⟨Le.eq (by first | rfl | simp), Le.eq (by first | rfl | simp), Le.eq (by first | rfl | simp), Le.eq (by first | rfl | simp), Le.eq (by first | rfl | simp), Le.eq (by first | rfl | simp), trivial⟩ trivial rfl (dom0 rfl) ?_
          exact ih.1 l0 a1 x5 x11 (mn (mn (mx (wrap64 ((rd l0 x11) - a1)) (wrap64 (a1 - (rd l0 x11)))) (mx (wrap64 ((rd l0 x11) - (wrap64 (3 * a1)))) (wrap64 ((wrap64 (3 * a1)) - (rd l0 x11))))) (mx (wrap64 ((rd l0 x11) - (wrap64 (7 * a1)))) (wrap64 ((wrap64 (7 * a1)) - (rd l0 x11))))) 
      · exact RT.done rfl rfl (Le.refl _) trivial rfl (dom0 rfl)
theorem key_offOf.ok (k : Nat) (l0 : List Int) (a1 : Int) (r : Int) (h : key_offOf.f k l0 a1 = some r) : Ct Tryz.prog B 59 [sq eI l0, .int .i64 a1] (ofL []) (.int .i64 r) (ofL []) := by
  refine Ct.of (Y := (fam Tryz.f59 [9] [] [] (fun r : Int => .int .i64 r) (fun r => []))) Tryz.func59 rfl Tryz.call59 rfl rfl ?_ r h
  unfold key_offOf.f
  refine RS.go ?_
  refine RT.goto rfl ?_
  refine RS.weak [(1, .int .i64 a1), (5, .int .i64 0), (9, sq eI l0), (10, .int .i64 (l0.length : Int)), (11, .int .i64 0)] [] ⟨Le.eq (by first | rfl | simp), Le.eq (by first | rfl | simp), Le.eq (by first | rfl | simp), Le.eq (by first | rfl | simp), Le.eq (by first | rfl | simp), trivial⟩ trivial rfl (dom0 rfl) ?_
  exact (key_offOf.loops k).2 l0 a1 0 0 
def strings_Fields.f (a0 : ByteArray) : Option (List ByteArray) := if a0.size < 4294967281 ∧ asciiT a0 = true then some ((Lib.fields a0.data.toList).map fun l => ⟨l.toArray⟩) else none
theorem strings_Fields.ok (a0 : ByteArray) (r : List ByteArray) (h : strings_Fields.f a0 = some r) : Ct Tryz.prog B 76 [.str a0] (ofL []) (sq eS r) (ofL []) := by
  unfold strings_Fields.f at h
  split at h
  case isFalse => cases h
  case isTrue c =>
  cases h
  refine Ct.libS Tryz.call76 rfl fun g w hb => ?_
  refine (Tryz.strings_Fields a0 w c.1 (asciiT_at c.2) (hbAsc hb)).mono fun e w' ⟨he, hw⟩ => ⟨_, he, ?_⟩
  subst hw
  have key : ∀ T, NewSl eS ((Lib.fields a0.data.toList).map fun l => (⟨l.toArray⟩ : ByteArray)) w (.slice (some ⟨w.heap.size, 0, none⟩) (Lib.fields a0.data.toList).length (Lib.fields a0.data.toList).length) (w.alloc (.cells ((Lib.fields a0.data.toList).map fun l => Value.string ⟨l.toArray⟩).toArray T)) := fun T => by
    have := newS (w := w) (T := T) (l := (Lib.fields a0.data.toList).map fun l => (⟨l.toArray⟩ : ByteArray)) (n := (Lib.fields a0.data.toList).length) (by simp)
    rwa [List.map_map] at this
  exact key _

/-! ### key_Codes: function 20 -/
def key_Codes.k0 : List DK := [⟨[23], [], [2], []⟩, ⟨[11, 22], [23, 2], [23], [2]⟩, ⟨[21], [22], [22], []⟩, ⟨[15, 20], [], [21], []⟩, ⟨[19], [], [20], []⟩, ⟨[16, 18], [], [19], []⟩, ⟨[17], [], [18], []⟩, ⟨[3], [], [17], []⟩, ⟨[1], [], [16], []⟩, ⟨[14], [], [15], []⟩, ⟨[12, 13], [], [14], []⟩, ⟨[3], [], [13], []⟩, ⟨[1], [], [12], []⟩, ⟨[2], [], [11], []⟩]
def key_Codes.k1 : List Nat := [0, 0, 0, 6, 14, 0, 0, 64, 224, 480, 1022, 2046, 4095, 8191]
def key_Codes.l0 : Nat → List ByteArray → Int → List (ByteArray × ByteArray) → Option ((List (ByteArray × ByteArray)))
  | 0, _, _, _ => Option.none
  | k + 1, x1, x3, o2 => (if x3 < (x1.length : Int) then (if 0 ≤ x3 then (if x3 < (x1.length : Int) then (if 0 ≤ wrap64 (x3 + 1) then (if wrap64 (x3 + 1) < (x1.length : Int) then (if o2.length + [((rdE eS x1 x3), (rdE eS x1 (wrap64 (x3 + 1))))].length ≤ 549755813888 then key_Codes.l0 k x1 (wrap64 (x3 + 2)) (o2 ++ [((rdE eS x1 x3), (rdE eS x1 (wrap64 (x3 + 1))))]) else Option.none) else Option.none) else Option.none) else Option.none) else Option.none) else Option.some o2)
def key_Codes.f (k : Nat) : Option ((List (ByteArray × ByteArray))) := ((strings_Fields.f str_2).bind fun r1 => key_Codes.l0 k r1 0 [])
theorem key_Codes.loops : ∀ k, (∀ (x1 : List ByteArray) (x3 : Int) (o2 : List (ByteArray × ByteArray)), RS (fam Tryz.f20 [] [] [] (fun r : (List (ByteArray × ByteArray)) => .osl 2 e_SS.w 0 r.length r.length) (fun r => [(2, bufE e_SS r)])) (Func.head Tryz.f20 0) ⟨ofT [(1, sq eS x1), (2, .osl 2 e_SS.w 0 o2.length o2.length), (3, .int .i64 x3)], ofL [(2, bufE e_SS o2)]⟩ (key_Codes.l0 k x1 x3 o2))
  | 0 => by intro _ _ _; simp only [key_Codes.l0]; exact RS.none
  | k + 1 => by
    have ih := key_Codes.loops k
    · intro x1 x3 o2
      simp only [key_Codes.l0]
      refine RS.go ?_
      refine RT.br rfl (fun c7 => ?_) (fun c7 => ?_)
      · refine RT.goto rfl ?_
        refine RS.draw rfl ?_
        refine RD.br rfl (fun c2 => ?_) (fun c2 => RD.none)
        refine RD.br rfl (fun c3 => ?_) (fun c3 => RD.none)
        refine RD.br rfl (fun c4 => ?_) (fun c4 => RD.none)
        refine RD.br rfl (fun c5 => ?_) (fun c5 => RD.none)
        refine RD.req rfl ⟨by first | rfl | simp, by first | exact Nat.le_refl _ | simp⟩ ?_
        refine RD.not rfl (by simp <;> omega) ?_
        refine RD.br rfl (fun c6 => ?_) (fun _ => RD.none)
        refine RD.fin key_Codes.k0 key_Codes.k1 rfl rfl (by decide +kernel) ?_
        refine RS.obj 2 (bufE e_SS (o2 ++ [((rdE eS x1 x3), (rdE eS x1 (wrap64 (x3 + 1))))])) ⟨_, rfl, LeO.app (l := o2) (m := [((rdE eS x1 x3), (rdE eS x1 (wrap64 (x3 + 1))))]) (cells_of rfl)⟩ ?_
        refine RS.slot 2 (.osl 2 e_SS.w 0 (o2 ++ [((rdE eS x1 x3), (rdE eS x1 (wrap64 (x3 + 1))))]).length (o2 ++ [((rdE eS x1 x3), (rdE eS x1 (wrap64 (x3 + 1))))]).length) (Le.oslN rfl (by simp)) ?_
        refine RS.slot 23 (.osl 2 e_SS.w 0 (o2 ++ [((rdE eS x1 x3), (rdE eS x1 (wrap64 (x3 + 1))))]).length (o2 ++ [((rdE eS x1 x3), (rdE eS x1 (wrap64 (x3 + 1))))]).length) (Le.oslN rfl (by simp)) ?_
        refine RS.go ?_
        refine RT.goto rfl ?_
        refine RS.weak [(1, sq eS x1), (2, .osl 2 e_SS.w 0 (o2 ++ [((rdE eS x1 x3), (rdE eS x1 (wrap64 (x3 + 1))))]).length (o2 ++ [((rdE eS x1 x3), (rdE eS x1 (wrap64 (x3 + 1))))]).length), (3, .int .i64 (wrap64 (x3 + 2)))] [(2, bufE e_SS (o2 ++ [((rdE eS x1 x3), (rdE eS x1 (wrap64 (x3 + 1))))]))] ⟨Le.eq (by first | rfl | simp), (by first | exact Le.oslN rfl (by first | rfl | simp) | exact Le.refl _ | exact Le.eq (by first | rfl | simp)), Le.eq (by first | rfl | simp), trivial⟩ ⟨⟨_, rfl, LeO.refl _⟩, trivial⟩ rfl (dom0 rfl) ?_
        exact ih x1 (wrap64 (x3 + 2)) (o2 ++ [((rdE eS x1 x3), (rdE eS x1 (wrap64 (x3 + 1))))]) 
      · exact RT.done rfl rfl (Le.refl _) ⟨⟨_, rfl, LeO.refl _⟩, trivial⟩ rfl (dom0 rfl)
theorem key_Codes.ok (k : Nat) (r : (List (ByteArray × ByteArray))) (h : key_Codes.f k  = some r) : Ct Tryz.prog B 20 [] (ofL []) (.osl 2 e_SS.w 0 r.length r.length) (ofL [(2, bufE e_SS r)]) := by
  refine Ct.of (Y := (fam Tryz.f20 [] [] [] (fun r : (List (ByteArray × ByteArray)) => .osl 2 e_SS.w 0 r.length r.length) (fun r => [(2, bufE e_SS r)]))) Tryz.func20 rfl Tryz.call20 rfl rfl ?_ r h
  unfold key_Codes.f
  refine RS.go ?_
  refine RT.call0 rfl (fun _ h => strings_Fields.ok str_2 _ h) (LeL.eq rfl) (fun _ => rfl) (fun r1 => ?_)
  refine RS.go ?_
  refine RT.goto rfl ?_
  refine RS.ghost 2 2 e_SS.w (rep e_SS []) rfl rfl ?_
  refine RS.weak [(1, sq eS r1), (2, .osl 2 e_SS.w 0 ([] : List (ByteArray × ByteArray)).length ([] : List (ByteArray × ByteArray)).length), (3, .int .i64 0)] [(2, bufE e_SS ([] : List (ByteArray × ByteArray)))] ⟨Le.eq (by first | rfl | simp), (by first | exact Le.oslN rfl (by first | rfl | simp) | exact Le.refl _ | exact Le.eq (by first | rfl | simp)), Le.eq (by first | rfl | simp), trivial⟩ ⟨⟨_, rfl, LeO.refl _⟩, trivial⟩ rfl (dom0 rfl) ?_
  exact key_Codes.loops k r1 0 [] 
/-! ### key_byCodes: function 86 -/
def key_byCodes.l0 : Nat → Int → Int → List (ByteArray × ByteArray) → List (ByteArray × ByteArray) → Option ((List (ByteArray × ByteArray)))
  | 0, _, _, _, _ => Option.none
  | k + 1, x6, x7, o4, o5 => (if x7 < x6 then (if 0 ≤ x7 then (if x7 < (o5.length : Int) then key_byCodes.l0 k x6 (wrap64 (x7 + 1)) (mput o4 ((rdE e_SS o5 x7).2) ((rdE e_SS o5 x7).1)) o5 else Option.none) else Option.none) else Option.some o4)
def key_byCodes.f (k : Nat) : Option ((List (ByteArray × ByteArray))) := ((key_Codes.f k ).bind fun r1 => key_byCodes.l0 k (r1.length : Int) 0 ([] : List (ByteArray × ByteArray)) r1)
theorem key_byCodes.loops : ∀ k, (∀ (x6 : Int) (x7 : Int) (o4 : List (ByteArray × ByteArray)) (o5 : List (ByteArray × ByteArray)), RS (fam Tryz.f86 [] [] [] (fun r : (List (ByteArray × ByteArray)) => .omap 4) (fun r => [(4, mapE KL.strs (ByteArray.empty : ByteArray) AV.str r)])) (Func.head Tryz.f86 0) ⟨ofT [(1, .omap 4), (5, .osl 5 e_SS.w 0 o5.length o5.length), (6, .int .i64 x6), (7, .int .i64 x7)], ofL [(4, mapE KL.strs (ByteArray.empty : ByteArray) AV.str o4), (5, bufE e_SS o5)]⟩ (key_byCodes.l0 k x6 x7 o4 o5))
  | 0 => by intro _ _ _ _; simp only [key_byCodes.l0]; exact RS.none
  | k + 1 => by
    have ih := key_byCodes.loops k
    · intro x6 x7 o4 o5
      simp only [key_byCodes.l0]
      refine RS.go ?_
      refine RT.br rfl (fun c4 => ?_) (fun c4 => ?_)
      · refine RT.req rfl (by first | exact Nat.zero_add _ | rfl | simp) ?_
        refine RT.br rfl (fun c2 => ?_) (fun c2 => RT.none)
        refine RT.br rfl (fun c3 => ?_) (fun c3 => RT.none)
        refine RT.req rfl ⟨by first | rfl | simp, elt_lt c2 (by first | exact c3 | simpa using c3)⟩ ?_
        refine RT.goto rfl ?_
        refine RS.obj 4 (mapE KL.strs (ByteArray.empty : ByteArray) AV.str (mput o4 ((rdE e_SS o5 x7).2) ((rdE e_SS o5 x7).1))) ⟨_, rfl, LeO.putS⟩ ?_
        refine RS.go ?_
        refine RT.goto rfl ?_
        refine RS.weak [(1, .omap 4), (5, .osl 5 e_SS.w 0 o5.length o5.length), (6, .int .i64 x6), (7, .int .i64 (wrap64 (x7 + 1)))] [(4, mapE KL.strs (ByteArray.empty : ByteArray) AV.str (mput o4 ((rdE e_SS o5 x7).2) ((rdE e_SS o5 x7).1))), (5, bufE e_SS o5)] ⟨Le.eq (by first | rfl | simp), (by first | exact Le.oslN rfl (by first | rfl | simp) | exact Le.refl _ | exact Le.eq (by first | rfl | simp)), Le.eq (by first | rfl | simp), Le.eq (by first | rfl | simp), trivial⟩ ⟨⟨_, rfl, LeO.refl _⟩, ⟨_, rfl, LeO.refl _⟩, trivial⟩ rfl (dom0 rfl) ?_
        exact ih x6 (wrap64 (x7 + 1)) (mput o4 ((rdE e_SS o5 x7).2) ((rdE e_SS o5 x7).1)) o5 
      · exact RT.done rfl rfl (Le.refl _) ⟨⟨_, rfl, LeO.refl _⟩, trivial⟩ rfl (dom0 rfl)
theorem key_byCodes.ok (k : Nat) (r : (List (ByteArray × ByteArray))) (h : key_byCodes.f k  = some r) : Ct Tryz.prog B 86 [] (ofL []) (.omap 4) (ofL [(4, mapE KL.strs (ByteArray.empty : ByteArray) AV.str r)]) := by
  refine Ct.of (Y := (fam Tryz.f86 [] [] [] (fun r : (List (ByteArray × ByteArray)) => .omap 4) (fun r => [(4, mapE KL.strs (ByteArray.empty : ByteArray) AV.str r)]))) Tryz.func86 rfl Tryz.call86 rfl rfl ?_ r h
  unfold key_byCodes.f
  refine RS.go ?_
  refine RT.call rfl (fun _ h => key_Codes.ok k  _ h) (fun i => bif Nat.beq i 2 then 5 else i) (LeL.eq rfl) trivial (fun _ => rfl) (fun r1 => ?_)
  refine RS.go ?_
  refine RT.req rfl (by first | exact Nat.zero_add _ | rfl | simp [szf, szOf]) ?_
  refine RT.goto rfl ?_
  refine RS.weak [(1, .omap 4), (5, .osl 5 e_SS.w 0 r1.length r1.length), (6, .int .i64 (r1.length : Int)), (7, .int .i64 0)] [(4, mapE KL.strs (ByteArray.empty : ByteArray) AV.str ([] : List (ByteArray × ByteArray))), (5, bufE e_SS r1)] ⟨Le.eq (by first | rfl | simp), (by first | exact Le.oslN rfl (by first | rfl | simp) | exact Le.refl _ | exact Le.eq (by first | rfl | simp)), Le.eq (by first | rfl | simp), Le.eq (by first | rfl | simp), trivial⟩ ⟨⟨_, rfl, LeO.refl _⟩, ⟨_, rfl, LeO.refl _⟩, trivial⟩ rfl (dom0 rfl) ?_
  exact key_byCodes.loops k (r1.length : Int) 0 ([] : List (ByteArray × ByteArray)) r1 
/-! ### strings.Builder at this seat -/
open Go.RowKit Go.Shelf Go.Proofs in
set_option maxHeartbeats 2000000 in
set_option maxRecDepth 100000 in
theorem bdCheckN {b : Nat} {w : World} (h0 : w.cell? ⟨b, 0, none⟩ = some (.pointer none)) (hsh : w.shape? b = some (136, 2)) (hfz : w.frozen? ⟨b, 0, none⟩ = false) :
    Calls Tryz.prog 160 #[.pointer (some ⟨b, 0, none⟩)] w fun e w' => e = .returned (.tuple #[]) ∧ w' = w.setCell ⟨b, 0, none⟩ (.pointer (some ⟨b, 0, none⟩)) := by
  obtain ⟨j, hj, hjs⟩ := Option.map_eq_some_iff.1 (show (Tryz.prog.info? 136).map (·.size) = some 2 by kernel_rfl)
  go_enter Tryz.func160, Tryz.ntmps160
  go_wp2
  rw [Lib.run_to_unsafe w ⟨b, 0, none⟩ Tryz.underlying133 Tryz.underlying228 hj (by rw [hjs]; decide) hsh (Nat.zero_lt_succ 1)]
  simp only [Result.andThen]
  rw [Oper.upon_value]
  go_wp2
  rw [run_callFunc_extern Tryz.func212 (by kernel_rfl) (by kernel_rfl) (by kernel_rfl) (e := Extern.AbiNoEscape.same) (by kernel_rfl)]
  rw [Lib.run_noEscape]
  simp only [Result.andThen]
  rw [Oper.upon_value]
  go_wp2
  rw [Lib.run_from_unsafe w ⟨b, 0, none⟩ Tryz.underlying228 Tryz.underlying133 hj hsh (by kernel_rfl)]
  simp only [Result.andThen]
  rw [Oper.upon_value]
  go_wp2
  go_end0
  exact ⟨rfl, rfl⟩
open Go.RowKit Go.Shelf Go.Proofs in
set_option maxHeartbeats 2000000 in
set_option maxRecDepth 100000 in
theorem bdCheckU {b : Nat} {w : World} (h0 : w.cell? ⟨b, 0, none⟩ = some (.pointer (some ⟨b, 0, none⟩))) :
    Calls Tryz.prog 160 #[.pointer (some ⟨b, 0, none⟩)] w fun e w' => e = .returned (.tuple #[]) ∧ w' = w := by
  obtain ⟨j, hj, _⟩ := Option.map_eq_some_iff.1 (show (Tryz.prog.info? 136).map (·.size) = some 2 by kernel_rfl)
  go_enter Tryz.func160, Tryz.ntmps160
  go_wp2
  rw [Lib.run_neq_ptr_same w _ Tryz.underlying133 hj]
  go_wp2
  go_end0
  exact ⟨rfl, rfl⟩
theorem bdCheck {b : Nat} {v : Value} {xs : List Value} {w : World} (h : BdFrom 136 5 b v xs w) :
    Calls Tryz.prog 160 #[.pointer (some ⟨b, 0, none⟩)] w fun e w' => e = .returned (.tuple #[]) ∧ w'.heap[b]? = some (.cells #[.pointer (some ⟨b, 0, none⟩), v] 136 (0, 0)) ∧ w'.ownsRowF 0 5 1 v xs.length xs ∧
      w'.os = w.os ∧ w'.tape = w.tape ∧ w'.output = w.output ∧ w.heap.size ≤ w'.heap.size ∧ ∀ k, k ≠ b → w'.heap[k]? = w.heap[k]? := by
  obtain ⟨p, hp, hbk⟩ := h.bk
  have hA : Lib.BuilderAtF 136 5 0 b p xs w := ⟨Nat.zero_le _, v, hbk, h.own, h.ne⟩
  rcases hp with rfl | rfl
  · refine (bdCheckN hA.cell0 hA.shape hA.frozen0).mono ?_
    rintro e w' ⟨rfl, rfl⟩
    exact ⟨rfl, BdFrom.used hbk hA⟩
  · refine (bdCheckU hA.cell0).mono ?_
    rintro e w' ⟨rfl, rfl⟩
    exact ⟨rfl, hbk, h.own, rfl, rfl, rfl, Nat.le_refl _, fun _ _ => rfl⟩
open Go.RowKit Go.Shelf Go.Proofs in
set_option maxHeartbeats 2000000 in
set_option maxRecDepth 100000 in
theorem bdStringCore {b n cap : Nat} {a : Option Addr} {q : Value} {t : ByteArray} {w wf : World} (c1 : w.drew.cell? ⟨b, 1, none⟩ = some (.slice a n cap))
    (hSD : (Builtin.unsafeSliceData_ #[134] 192 #[.slice a n cap]).run Tryz.prog w.drew = .ok q w.drew) (hUS : (Builtin.unsafeString_ #[192, 3] 9 #[q, .int .i64 n]).run Tryz.prog w.drew = .ok (.string t) wf) :
    Calls Tryz.prog 115 #[.pointer (some ⟨b, 0, none⟩)] w fun e w' => e = .returned (.string t) ∧ w' = wf := by
  have mixed : Tryz.prog.follows .mixedOrders = true := by kernel_rfl
  go_enter Tryz.func115, Tryz.ntmps115
  go_wp2
  go_region_o
  all_goals (go_wp2; go_ret; exact ⟨rfl, rfl⟩)
theorem bdString {b : Nat} {v : Value} (t : ByteArray) {w : World} (h : BdFrom 136 5 b v (Lib.strCells t) w) :
    Calls Tryz.prog 115 #[.pointer (some ⟨b, 0, none⟩)] w fun e w' => e = .returned (.string t) ∧ BdTo 136 5 b v (Lib.strCells t) w w' := by
  have hk := bd_string (P := Tryz.prog) (tp := 192) (ti := 3) (ts := 9) (tl := 134) Tryz.underlying192 (show Tryz.prog.cellsOf 5 = 1 by kernel_rfl) h
  obtain ⟨a, n, cap, q, wf, h1, h2, h3, h4⟩ := hk
  exact (bdStringCore h1 h2 h3).mono fun e w' ⟨he, hw⟩ => ⟨he, hw ▸ h4⟩
def strings_Builder_String.f (v : Nat) (b : ByteArray) : Option (Nat × ByteArray) := some (v + 1, b)
theorem strings_Builder_String.ok (v : Nat) (b : ByteArray) (r : Nat × ByteArray) (h : strings_Builder_String.f v b = some r) :
    Ct Tryz.prog B 115 [.ref 100000 0 0 0 2] (ofL [(100000, .bx 136 1100000 v b.size), (1100000, .bb 5 v b)]) (.str r.2) (ofL [(100000, .bx 136 1100000 r.1 r.2.size), (1100000, .bb 5 r.1 r.2)]) := by
  unfold strings_Builder_String.f at h
  cases h
  refine @Ct.bd Tryz.prog B 115 136 5 100000 1100000 v b b [] [] (.string b) (.str b) (by omega) Tryz.call115 rfl (fun _ _ _ => R.str _) fun k x w hF => ?_
  exact bdString b hF

/-! ### key_signOf: function 88 -/
def key_signOf.f (m0 : List (ByteArray × ByteArray)) (a1 : ByteArray) : Option (ByteArray) := (if a1 ∈ List.map Prod.fst m0 then Option.some (mget (ByteArray.empty : ByteArray) m0 a1) else Option.some (⟨#[42]⟩ : ByteArray))
theorem key_signOf.ok (m0 : List (ByteArray × ByteArray)) (a1 : ByteArray) (r : ByteArray) (h : key_signOf.f m0 a1 = some r) : Ct Tryz.prog B 88 [.omap 100000, .str a1] (ofL [(100000, mapE KL.strs (ByteArray.empty : ByteArray) AV.str m0)]) (.str r) (ofL [(100000, mapE KL.strs (ByteArray.empty : ByteArray) AV.str m0)]) := by
  refine Ct.of (Y := (fam Tryz.f88 [] [] [(100000, mapE KL.strs (ByteArray.empty : ByteArray) AV.str m0)] (fun r : ByteArray => .str r) (fun r => [(100000, mapE KL.strs (ByteArray.empty : ByteArray) AV.str m0)]))) Tryz.func88 rfl Tryz.call88 rfl rfl ?_ r h
  unfold key_signOf.f
  refine RS.go ?_
  refine RT.req rfl (congrArg AV.str (map_end (l := m0) (d := (ByteArray.empty : ByteArray)))) ?_
  refine RT.br rfl (fun c1 => ?_) (fun c1 => ?_)
  · exact RT.done rfl rfl (Le.refl _) ⟨⟨_, rfl, LeO.refl _⟩, trivial⟩ rfl (dom_of rfl)
  · exact RT.done rfl rfl (Le.refl _) ⟨⟨_, rfl, LeO.refl _⟩, trivial⟩ rfl (dom_of rfl)
open Go.RowKit Go.Shelf Go.Proofs in
set_option maxHeartbeats 2000000 in
set_option maxRecDepth 100000 in
theorem bdWriteString {b : Nat} {v : Value} {xs : List Value} (s : ByteArray) {w : World} (h : BdFrom 136 5 b v xs w) (hlen : xs.length + s.size ≤ 140737488355328) :
    Calls Tryz.prog 114 #[.pointer (some ⟨b, 0, none⟩), .string s] w fun e w' => e = .returned (.tuple #[.int .i64 s.size, .nilIface]) ∧ BdTo 136 5 b v (xs ++ Lib.strCells s) w w' := by
  obtain ⟨i0, hi, hz0, hz1, hz2⟩ := info_parts (show (Tryz.prog.info? 5).map (fun i => (i.zero, i.size, i.bytes)) = some (some (.int .u8 0), 1, 1) by kernel_rfl)
  have hne := h.ne
  have hnil := h.nil
  have ecc : ∀ args w, (callFunc 160 args).run Tryz.prog w = .ok (.enter 160 args) w := Tryz.call160
  go_enter Tryz.func114, Tryz.ntmps114
  go_wp2_with (go_at_fn 160; refine (bdCheck h).mono ?_)
  rintro e w1 ⟨rfl, hbk, hown, f1, f2, f3, f4, f5⟩
  have hlt : b < w1.heap.size := (Array.getElem?_eq_some_iff.1 hbk).1
  have c0 : w1.cell? ⟨b, 0, none⟩ = some (.pointer (some ⟨b, 0, none⟩)) := by rw [Lib.cell_of_heap hbk]; rfl
  have c1 : w1.cell? ⟨b, 1, none⟩ = some v := by rw [Lib.cell_of_heap hbk]; rfl
  go_wp2_with (at_builtin; refine wpList_app_str _ rfl _ _ 134 9 rfl 5 i0 Tryz.underlying134 Tryz.underlying9 hi hz0 hz1 hz2 _ _ _ rfl hown s rfl ?c3 ?c4 ?_)
  case c3 => unfold maxLen; omega
  case c4 => omega
  intro v' w2 hown' hgrow hnil' hnew
  have hb2 : w2.heap[b]? = some (.cells #[.pointer (some ⟨b, 0, none⟩), v] 136 (0, 0)) := (hgrow.block b hlt (fun e => hne e.symm)).trans hbk
  have d0 : w2.cell? ⟨b, 0, none⟩ = some (.pointer (some ⟨b, 0, none⟩)) := by rw [Lib.cell_of_heap hb2]; rfl
  have d1 : w2.cell? ⟨b, 1, none⟩ = some v := by rw [Lib.cell_of_heap hb2]; rfl
  have fr1 : w2.frozen? ⟨b, 1, none⟩ = false := Lib.frozen_of_heap hb2 1
  have hnil3 : xs ++ Lib.strCells s = [] → v' = .slice none 0 0 := fun h0 => by
    obtain ⟨h1, h2⟩ := List.append_eq_nil_iff.1 h0
    have h3 := Lib.strCells_length s
    rw [h2] at h3
    have h4 : s.size = 0 := h3.symm
    exact hnil'.2 ⟨hnil h1, by first | exact h4 | simpa using h4⟩
  obtain ⟨ao, n', cap, rfl⟩ : ∃ ao n' cap, v' = .slice ao n' cap := by
    rcases hown'.2 with ⟨hv, _⟩ | ⟨g, cap, cur, fz, hv, _⟩
    · exact ⟨_, _, _, hv⟩
    · exact ⟨_, _, _, hv⟩
  go_wp2
  go_ret2
  refine ⟨rfl, BdTo.put (by decide) (by omega) hbk ⟨f1, f2, f3, fun k hk hkb => f5 k hkb⟩ hne (by simpa [Lib.strCells_length] using hown') hgrow hnil3 hnew⟩
def strings_Builder_WriteString.f (v : Nat) (b : ByteArray) (s : ByteArray) : Option (Nat × ByteArray) := if b.size + s.size ≤ 140737488355328 then some (v + 1, b ++ s) else none
theorem strings_Builder_WriteString.ok (v : Nat) (b : ByteArray) (s : ByteArray) (r : Nat × ByteArray) (h : strings_Builder_WriteString.f v b s = some r) :
    Ct Tryz.prog B 114 [.ref 100000 0 0 0 2, .str s] (ofL [(100000, .bx 136 1100000 v b.size), (1100000, .bb 5 v b)]) .bad (ofL [(100000, .bx 136 1100000 r.1 r.2.size), (1100000, .bb 5 r.1 r.2)]) := by
  unfold strings_Builder_WriteString.f at h
  split at h
  case isFalse => cases h
  case isTrue hc =>
  cases h
  refine @Ct.bd Tryz.prog B 114 136 5 100000 1100000 v b (b ++ s) [.str s] [.string s] (.tuple #[.int .i64 s.size, .nilIface]) .bad (by omega) Tryz.call114 rfl (fun _ _ _ => R.bad _) fun k x w hF => ?_
  have := bdWriteString s hF (by rw [Lib.strCells_length]; exact hc)
  rw [strCells_app]
  exact this

/-! ### strings_Builder_Reset: function 116 -/
def strings_Builder_Reset.f (p0v : Nat) (p0 : ByteArray) : Option (Nat × ByteArray) := Option.some (p0v, ByteArray.empty)
theorem strings_Builder_Reset.ok (p0v : Nat) (p0 : ByteArray) (r : Nat × ByteArray) (h : strings_Builder_Reset.f p0v p0 = some r) : Ct Tryz.prog B 116 [.ref 100000 0 0 0 2] (ofL [(100000, .bx 136 1100000 p0v p0.size), (1100000, .bb 5 p0v p0)]) (.tup []) (ofL [(100000, .bx 136 1100000 r.1 r.2.size), (1100000, .bb 5 r.1 r.2)]) := by
  refine Ct.of (Y := (fam Tryz.f116 [] [] [(100000, .bx 136 1100000 p0v p0.size), (1100000, .bb 5 p0v p0)] (fun r : Nat × ByteArray => .tup []) (fun r => [(100000, .bx 136 1100000 r.1 r.2.size), (1100000, .bb 5 r.1 r.2)]))) Tryz.func116 rfl Tryz.call116 rfl rfl ?_ r h
  unfold strings_Builder_Reset.f
  refine RS.go ?_
  refine RT.goto rfl ?_
  refine RS.go ?_
  refine RT.goto rfl ?_
  refine RS.obj 1100000 (.bb 5 p0v ByteArray.empty) ⟨_, rfl, LeO.bbN⟩ ?_
  refine RS.obj 100000 (.bx 136 1100000 p0v ByteArray.empty.size) ⟨_, rfl, LeO.refl _⟩ ?_
  refine RS.go ?_
  exact RT.done rfl rfl (Le.tup (LeL.nil)) ⟨⟨_, rfl, LeO.refl _⟩, ⟨⟨_, rfl, LeO.refl _⟩, trivial⟩⟩ rfl (dom_of rfl)
open Go.RowKit Go.Shelf Go.Proofs in
set_option maxHeartbeats 2000000 in
set_option maxRecDepth 100000 in
theorem bdWriteByte {b : Nat} {v : Value} {xs : List Value} (c : Int) {w : World} (h : BdFrom 136 5 b v xs w) (hlen : xs.length + 1 ≤ 140737488355328) :
    Calls Tryz.prog 117 #[.pointer (some ⟨b, 0, none⟩), .int .u8 c] w fun e w' => e = .returned .nilIface ∧ BdTo 136 5 b v (xs ++ [.int .u8 c]) w w' := by
  obtain ⟨i0, hi, hz0, hz1, hz2⟩ := info_parts (show (Tryz.prog.info? 5).map (fun i => (i.zero, i.size, i.bytes)) = some (some (.int .u8 0), 1, 1) by kernel_rfl)
  have hne := h.ne
  have hnil := h.nil
  have ecc : ∀ args w, (callFunc 160 args).run Tryz.prog w = .ok (.enter 160 args) w := Tryz.call160
  go_enter Tryz.func117, Tryz.ntmps117
  go_wp2_with (go_at_fn 160; refine (bdCheck h).mono ?_)
  rintro e w1 ⟨rfl, hbk, hown, f1, f2, f3, f4, f5⟩
  have hlt : b < w1.heap.size := (Array.getElem?_eq_some_iff.1 hbk).1
  have c0 : w1.cell? ⟨b, 0, none⟩ = some (.pointer (some ⟨b, 0, none⟩)) := by rw [Lib.cell_of_heap hbk]; rfl
  have c1 : w1.cell? ⟨b, 1, none⟩ = some v := by rw [Lib.cell_of_heap hbk]; rfl
  go_wp2_with (at_builtin; refine wpList_app_bytes _ rfl _ _ 134 rfl 5 i0 Tryz.underlying134 hi hz0 hz1 hz2 _ _ _ rfl (hown.alloc _) ⟨w1.heap.size, 0, none⟩ 1 1 [.int .u8 c] rfl rfl ?c1 ?c2 ?c3 ?c4 ?_)
  case c1 =>
    intro j u hj
    match j, hj with
    | 0, hj => simp at hj; subst hj; simp [Addr.add]
  case c2 => intro u hu; simp at hu; subst hu; rfl
  case c3 => unfold maxLen; omega
  case c4 => omega
  intro v' w2 hown' hgrow hnil' hnew
  have hb2 : w2.heap[b]? = some (.cells #[.pointer (some ⟨b, 0, none⟩), v] 136 (0, 0)) := by
    rw [hgrow.block b (by simp; omega) (fun e => hne e.symm), Lib.alloc_old w1 _ b hlt]
    exact hbk
  have d0 : w2.cell? ⟨b, 0, none⟩ = some (.pointer (some ⟨b, 0, none⟩)) := by rw [Lib.cell_of_heap hb2]; rfl
  have d1 : w2.cell? ⟨b, 1, none⟩ = some v := by rw [Lib.cell_of_heap hb2]; rfl
  have fr1 : w2.frozen? ⟨b, 1, none⟩ = false := Lib.frozen_of_heap hb2 1
  obtain ⟨g, cap, rfl⟩ : ∃ g cap, v' = .slice (some ⟨g, 0, none⟩) (xs.length + 1) cap := by
    rcases hown'.2 with ⟨_, h0⟩ | ⟨g, cap, cur, fz, hv, _⟩
    · omega
    · exact ⟨g, cap, hv⟩
  go_wp2
  go_ret
  refine ⟨rfl, BdTo.put (w1 := w1.alloc _) (by decide) (by simp; omega) ((Lib.alloc_old w1 _ b hlt).trans hbk) ⟨f1, f2, f3, fun k hk hkb => (Lib.alloc_old w1 _ k (by omega)).trans (f5 k hkb)⟩ hne (by simpa using hown') hgrow (by simp) hnew⟩
def strings_Builder_WriteByte.f (v : Nat) (b : ByteArray) (c : Int) : Option (Nat × ByteArray) := if b.size + 1 ≤ 140737488355328 ∧ 0 ≤ c ∧ c < 256 then some (v + 1, b.push (UInt8.ofNat c.toNat)) else none
theorem strings_Builder_WriteByte.ok (v : Nat) (b : ByteArray) (c : Int) (r : Nat × ByteArray) (h : strings_Builder_WriteByte.f v b c = some r) :
    Ct Tryz.prog B 117 [.ref 100000 0 0 0 2, .int .u8 c] (ofL [(100000, .bx 136 1100000 v b.size), (1100000, .bb 5 v b)]) .bad (ofL [(100000, .bx 136 1100000 r.1 r.2.size), (1100000, .bb 5 r.1 r.2)]) := by
  unfold strings_Builder_WriteByte.f at h
  split at h
  case isFalse => cases h
  case isTrue hc =>
  cases h
  refine @Ct.bd Tryz.prog B 117 136 5 100000 1100000 v b (b.push (UInt8.ofNat c.toNat)) [.int .u8 c] [.int .u8 c] .nilIface .bad (by omega) Tryz.call117 rfl (fun _ _ _ => R.bad _) fun k x w hF => ?_
  have := bdWriteByte c hF (by rw [Lib.strCells_length]; exact hc.1)
  rw [strCells_push b hc.2.1 hc.2.2]
  exact this

/-! ### key_read_1: function 113 -/
def key_read_1.k0 : List DK := [⟨[0, 5], [300000, 1300000, 300000, 1300000], [6], [300000, 1300000]⟩, ⟨[3, 4], [700001, 700001], [5], []⟩, ⟨[2], [300002, 1300002, 300002, 1300002], [4], [300002, 1300002]⟩, ⟨[1], [300001], [3], []⟩]
def key_read_1.k1 : List Nat := [0, 0, 3, 7]
def key_read_1.f (v0v : Nat) (v0 : ByteArray) (v1 : List (ByteArray × ByteArray)) (v2v : Nat) (v2 : ByteArray) : Option (Nat × ByteArray × Nat × ByteArray) := ((strings_Builder_String.f v2v v2).bind fun r1 => ((key_signOf.f v1 r1.2).bind fun r2 => ((strings_Builder_WriteString.f v0v v0 r2).bind fun r3 => ((strings_Builder_Reset.f r1.1 r1.2).bind fun r4 => Option.some (r3.1, r3.2, r4.1, r4.2)))))
theorem key_read_1.ok (v0v : Nat) (v0 : ByteArray) (v1 : List (ByteArray × ByteArray)) (v2v : Nat) (v2 : ByteArray) (r : Nat × ByteArray × Nat × ByteArray) (h : key_read_1.f v0v v0 v1 v2v v2 = some r) : Ct Tryz.prog B 113 [.ref 300000 0 0 0 2, .ref 300001 0 0 0 1, .ref 300002 0 0 0 2] (ofL [(300000, .bx 136 1300000 v0v v0.size), (1300000, .bb 5 v0v v0), (300001, .box [.omap 700001]), (700001, mapE KL.strs (ByteArray.empty : ByteArray) AV.str v1), (300002, .bx 136 1300002 v2v v2.size), (1300002, .bb 5 v2v v2)]) (.tup []) (ofL [(300001, .box [.omap 700001]), (700001, mapE KL.strs (ByteArray.empty : ByteArray) AV.str v1), (300000, .bx 136 1300000 r.1 r.2.1.size), (1300000, .bb 5 r.1 r.2.1), (300002, .bx 136 1300002 r.2.2.1 r.2.2.2.size), (1300002, .bb 5 r.2.2.1 r.2.2.2)]) := by
  refine Ct.of (Y := (fam Tryz.f113 [] [] [(300000, .bx 136 1300000 v0v v0.size), (1300000, .bb 5 v0v v0), (300001, .box [.omap 700001]), (700001, mapE KL.strs (ByteArray.empty : ByteArray) AV.str v1), (300002, .bx 136 1300002 v2v v2.size), (1300002, .bb 5 v2v v2)] (fun r : Nat × ByteArray × Nat × ByteArray => .tup []) (fun r => [(300001, .box [.omap 700001]), (700001, mapE KL.strs (ByteArray.empty : ByteArray) AV.str v1), (300000, .bx 136 1300000 r.1 r.2.1.size), (1300000, .bb 5 r.1 r.2.1), (300002, .bx 136 1300002 r.2.2.1 r.2.2.2.size), (1300002, .bb 5 r.2.2.1 r.2.2.2)]))) Tryz.func113 rfl Tryz.call113 rfl rfl ?_ r h
  unfold key_read_1.f
  refine RS.go ?_
  refine RT.goto rfl ?_
  refine RS.draw rfl ?_
  refine RD.call (CR := []) (CW := (fun r => [(100000, .bx 136 1100000 r.1 r.2.size), (1100000, .bb 5 r.1 r.2)])) rfl (fun _ h => strings_Builder_String.ok v2v v2 _ h) (fun i => bif Nat.beq i 1100000 then 1300002 else bif Nat.beq i 100000 then 300002 else i) trivial (fun _ => rfl) ⟨_, _, _, _, rfl, rfl, rfl⟩ (LeL.eq rfl) ⟨⟨_, rfl, LeO.refl _⟩, ⟨⟨_, rfl, LeO.refl _⟩, trivial⟩⟩ (fun _ => rfl) (fun r1 => ?_)
  refine RD.call (CR := [(100000, mapE KL.strs (ByteArray.empty : ByteArray) AV.str v1)]) (CW := (fun r => [])) rfl (fun _ h => key_signOf.ok v1 r1.2 _ h) (fun i => bif Nat.beq i 100000 then 700001 else i) ⟨rfl, trivial⟩ (fun _ => rfl) ⟨_, _, _, _, rfl, rfl, rfl⟩ (LeL.eq rfl) ⟨⟨_, rfl, LeO.refl _⟩, trivial⟩ (fun _ => rfl) (fun r2 => ?_)
  refine RD.call (CR := []) (CW := (fun r => [(100000, .bx 136 1100000 r.1 r.2.size), (1100000, .bb 5 r.1 r.2)])) rfl (fun _ h => strings_Builder_WriteString.ok v0v v0 r2 _ h) (fun i => bif Nat.beq i 1100000 then 1300000 else bif Nat.beq i 100000 then 300000 else i) trivial (fun _ => rfl) ⟨_, _, _, _, rfl, rfl, rfl⟩ (LeL.eq rfl) ⟨⟨_, rfl, LeO.refl _⟩, ⟨⟨_, rfl, LeO.refl _⟩, trivial⟩⟩ (fun _ => rfl) (fun r3 => ?_)
  refine RD.fin key_read_1.k0 key_read_1.k1 rfl rfl (by decide +kernel) ?_
  refine RS.go ?_
  refine RT.call rfl (fun _ h => strings_Builder_Reset.ok r1.1 r1.2 _ h) (fun i => bif Nat.beq i 1100000 then 1300002 else bif Nat.beq i 100000 then 300002 else i) (LeL.eq rfl) ⟨⟨_, rfl, LeO.refl _⟩, ⟨⟨_, rfl, LeO.refl _⟩, trivial⟩⟩ (fun _ => rfl) (fun r4 => ?_)
  refine RS.go ?_
  exact RT.done rfl rfl (Le.tup (LeL.nil)) ⟨⟨_, rfl, LeO.refl _⟩, ⟨⟨_, rfl, LeO.refl _⟩, ⟨⟨_, rfl, LeO.refl _⟩, ⟨⟨_, rfl, LeO.refl _⟩, ⟨⟨_, rfl, LeO.refl _⟩, ⟨⟨_, rfl, LeO.refl _⟩, trivial⟩⟩⟩⟩⟩⟩ rfl (dom_of rfl)
/-! ### key_read: function 58 -/
mutual
def key_read.j17 : Nat → List Int → Int → Int → List (ByteArray × ByteArray) → Nat → ByteArray → Nat → ByteArray → Option (ByteArray)
  | 0, _, _, _, _, _, _, _, _ => Option.none
  | k + 1, l0, a1, x17, o13, v1000006j17, o1000006j17, v1000007j17, o1000007j17 => key_read.l0 k l0 a1 (wrap64 (x17 + 1)) o13 v1000006j17 o1000006j17 v1000007j17 o1000007j17
def key_read.l0 : Nat → List Int → Int → Int → List (ByteArray × ByteArray) → Nat → ByteArray → Nat → ByteArray → Option (ByteArray)
  | 0, _, _, _, _, _, _, _, _ => Option.none
  | k + 1, l0, a1, x17, o13, v1000006, o1000006, v1000007, o1000007 => (if x17 < (l0.length : Int) then (if 0 ≤ x17 then (if x17 < (l0.length : Int) then ((key_isMark.f x17).bind fun r4 => ((key_nearest.f k (rd l0 x17) a1 r4).bind fun r5 => ((key_isMark.f x17).bind fun r6 => (if r6 = true then (if r5.1 = 1 then ((strings_Builder_WriteByte.f v1000007 o1000007 46).bind fun r7 => key_read.j17 k l0 a1 x17 o13 v1000006 o1000006 r7.1 r7.2) else ((key_isMark.f x17).bind fun r8 => (if r8 = true then ((strings_Builder_WriteByte.f v1000007 o1000007 45).bind fun r9 => key_read.j17 k l0 a1 x17 o13 v1000006 o1000006 r9.1 r9.2) else (if r5.1 = 3 then ((key_read_1.f v1000006 o1000006 o13 v1000007 o1000007).bind fun r10 => key_read.j17 k l0 a1 x17 o13 r10.1 r10.2.1 r10.2.2.1 r10.2.2.2) else (if r5.1 = 7 then ((key_read_1.f v1000006 o1000006 o13 v1000007 o1000007).bind fun r11 => ((strings_Builder_WriteByte.f r11.1 r11.2.1 32).bind fun r12 => key_read.j17 k l0 a1 x17 o13 r12.1 r12.2 r11.2.2.1 r11.2.2.2)) else key_read.j17 k l0 a1 x17 o13 v1000006 o1000006 v1000007 o1000007))))) else ((key_isMark.f x17).bind fun r17 => (if r17 = true then ((strings_Builder_WriteByte.f v1000007 o1000007 45).bind fun r18 => key_read.j17 k l0 a1 x17 o13 v1000006 o1000006 r18.1 r18.2) else (if r5.1 = 3 then ((key_read_1.f v1000006 o1000006 o13 v1000007 o1000007).bind fun r19 => key_read.j17 k l0 a1 x17 o13 r19.1 r19.2.1 r19.2.2.1 r19.2.2.2) else (if r5.1 = 7 then ((key_read_1.f v1000006 o1000006 o13 v1000007 o1000007).bind fun r20 => ((strings_Builder_WriteByte.f r20.1 r20.2.1 32).bind fun r21 => key_read.j17 k l0 a1 x17 o13 r21.1 r21.2 r20.2.2.1 r20.2.2.2)) else key_read.j17 k l0 a1 x17 o13 v1000006 o1000006 v1000007 o1000007)))))))) else Option.none) else Option.none) else ((key_read_1.f v1000006 o1000006 o13 v1000007 o1000007).bind fun r26 => ((strings_Builder_String.f r26.1 r26.2.1).bind fun r27 => Option.some r27.2)))
end
def key_read.f (k : Nat) (l0 : List Int) (a1 : Int) : Option (ByteArray) := ((key_byCodes.f k ).bind fun r1 => key_read.l0 k l0 a1 0 r1 0 ByteArray.empty 0 ByteArray.empty)
theorem key_read.loops : ∀ k, (∀ (l0 : List Int) (a1 : Int) (x17 : Int) (o13 : List (ByteArray × ByteArray)) (v1000006j17 : Nat) (o1000006j17 : ByteArray) (v1000007j17 : Nat) (o1000007j17 : ByteArray), RS (fam Tryz.f58 [17] [] [] (fun r : ByteArray => .str r) (fun r => [])) (Func.reg Tryz.f58 17) ⟨ofT [(1, .int .i64 a1), (6, .ref 6 0 0 0 2), (7, .ref 7 0 0 0 2), (8, .fn 113 [.ref 6 0 0 0 2, .ref 5 0 0 0 1, .ref 7 0 0 0 2]), (15, sq eI l0), (16, .int .i64 (l0.length : Int)), (17, .int .i64 x17)], ofL [(5, .box [.omap 13]), (6, .bx 136 1000006 v1000006j17 o1000006j17.size), (7, .bx 136 1000007 v1000007j17 o1000007j17.size), (13, mapE KL.strs (ByteArray.empty : ByteArray) AV.str o13), (1000006, .bb 5 v1000006j17 o1000006j17), (1000007, .bb 5 v1000007j17 o1000007j17)]⟩ (key_read.j17 k l0 a1 x17 o13 v1000006j17 o1000006j17 v1000007j17 o1000007j17)) ∧ (∀ (l0 : List Int) (a1 : Int) (x17 : Int) (o13 : List (ByteArray × ByteArray)) (v1000006 : Nat) (o1000006 : ByteArray) (v1000007 : Nat) (o1000007 : ByteArray), RS (fam Tryz.f58 [17] [] [] (fun r : ByteArray => .str r) (fun r => [])) (Func.head Tryz.f58 0) ⟨ofT [(1, .int .i64 a1), (6, .ref 6 0 0 0 2), (7, .ref 7 0 0 0 2), (8, .fn 113 [.ref 6 0 0 0 2, .ref 5 0 0 0 1, .ref 7 0 0 0 2]), (15, sq eI l0), (16, .int .i64 (l0.length : Int)), (17, .int .i64 x17)], ofL [(5, .box [.omap 13]), (6, .bx 136 1000006 v1000006 o1000006.size), (7, .bx 136 1000007 v1000007 o1000007.size), (13, mapE KL.strs (ByteArray.empty : ByteArray) AV.str o13), (1000006, .bb 5 v1000006 o1000006), (1000007, .bb 5 v1000007 o1000007)]⟩ (key_read.l0 k l0 a1 x17 o13 v1000006 o1000006 v1000007 o1000007))
  | 0 => ⟨by intro _ _ _ _ _ _ _ _; simp only [key_read.j17]; exact RS.none, by intro _ _ _ _ _ _ _ _; simp only [key_read.l0]; exact RS.none⟩
  | k + 1 => by
    have ih := key_read.loops k
    refine ⟨?_, ?_⟩
    · intro l0 a1 x17 o13 v1000006j17 o1000006j17 v1000007j17 o1000007j17
      simp only [key_read.j17]
      refine RS.region ?_
      refine RS.go ?_
      refine RT.goto rfl ?_
      refine RS.weak [(1, .int .i64 a1), (6, .ref 6 0 0 0 2), (7, .ref 7 0 0 0 2), (8, .fn 113 [.ref 6 0 0 0 2, .ref 5 0 0 0 1, .ref 7 0 0 0 2]), (15, sq eI l0), (16, .int .i64 (l0.length : Int)), (17, .int .i64 (wrap64 (x17 + 1)))] [(5, .box [.omap 13]), (6, .bx 136 1000006 v1000006j17 o1000006j17.size), (7, .bx 136 1000007 v1000007j17 o1000007j17.size), (13, mapE KL.strs (ByteArray.empty : ByteArray) AV.str o13), (1000006, .bb 5 v1000006j17 o1000006j17), (1000007, .bb 5 v1000007j17 o1000007j17)] ⟨Le.eq (by first | rfl | simp), Le.eq (by first | rfl | simp), Le.eq (by first | rfl | simp), Le.eq (by first | rfl | simp), Le.eq (by first | rfl | simp), Le.eq (by first | rfl | simp), Le.eq (by first | rfl | simp), trivial⟩ ⟨⟨_, rfl, LeO.refl _⟩, ⟨_, rfl, LeO.refl _⟩, ⟨_, rfl, LeO.refl _⟩, ⟨_, rfl, LeO.refl _⟩, ⟨_, rfl, LeO.refl _⟩, ⟨_, rfl, LeO.refl _⟩, trivial⟩ rfl (dom0 rfl) ?_
      exact ih.2 l0 a1 (wrap64 (x17 + 1)) o13 v1000006j17 o1000006j17 v1000007j17 o1000007j17 
    · intro l0 a1 x17 o13 v1000006 o1000006 v1000007 o1000007
      simp only [key_read.l0]
      refine RS.go ?_
      refine RT.br rfl (fun c28 => ?_) (fun c28 => ?_)
      · refine RT.br rfl (fun c2 => ?_) (fun c2 => RT.none)
        refine RT.br rfl (fun c3 => ?_) (fun c3 => RT.none)
        refine RT.call0 rfl (fun _ h => key_isMark.ok x17 _ h) (LeL.eq rfl) (fun _ => rfl) (fun r4 => ?_)
        refine RS.go ?_
        refine RT.call0 rfl (fun _ h => key_nearest.ok k (rd l0 x17) a1 r4 _ h) (LeL.eq rfl) (fun _ => rfl) (fun r5 => ?_)
        refine RS.go ?_
        refine RT.call0 rfl (fun _ h => key_isMark.ok x17 _ h) (LeL.eq rfl) (fun _ => rfl) (fun r6 => ?_)
        refine RS.go ?_
        refine RT.brB rfl (fun c25 => ?_) (fun c25 => ?_)
        · refine RT.brT rfl ?_
          refine RT.brT rfl ?_
          refine RT.br rfl (fun c16 => ?_) (fun c16 => ?_)
          · refine RT.call rfl (fun _ h => strings_Builder_WriteByte.ok v1000007 o1000007 46 _ h) (fun i => bif Nat.beq i 1100000 then 1000007 else bif Nat.beq i 100000 then 7 else i) (LeL.eq rfl) ⟨⟨_, rfl, LeO.refl _⟩, ⟨⟨_, rfl, LeO.refl _⟩, trivial⟩⟩ (fun _ => rfl) (fun r7 => ?_)
            refine RS.go ?_
            refine RT.goto rfl ?_
            refine RS.weak [(1, .int .i64 a1), (6, .ref 6 0 0 0 2), (7, .ref 7 0 0 0 2), (8, .fn 113 [.ref 6 0 0 0 2, .ref 5 0 0 0 1, .ref 7 0 0 0 2]), (15, sq eI l0), (16, .int .i64 (l0.length : Int)), (17, .int .i64 x17)] [(5, .box [.omap 13]), (6, .bx 136 1000006 v1000006 o1000006.size), (7, .bx 136 1000007 r7.1 r7.2.size), (13, mapE KL.strs (ByteArray.empty : ByteArray) AV.str o13), (1000006, .bb 5 v1000006 o1000006), (1000007, .bb 5 r7.1 r7.2)] ⟨Le.eq (by first | rfl | simp), Le.eq (by first | rfl | simp), Le.eq (by first | rfl | simp), Le.eq (by first | rfl | simp), Le.eq (by first | rfl | simp), Le.eq (by first | rfl | simp), Le.eq (by first | rfl | simp), trivial⟩ ⟨⟨_, rfl, LeO.refl _⟩, ⟨_, rfl, LeO.refl _⟩, ⟨_, rfl, LeO.refl _⟩, ⟨_, rfl, LeO.refl _⟩, ⟨_, rfl, LeO.refl _⟩, ⟨_, rfl, LeO.refl _⟩, trivial⟩ rfl (dom0 rfl) ?_
            exact ih.1 l0 a1 x17 o13 v1000006 o1000006 r7.1 r7.2 
          · refine RT.call0 rfl (fun _ h => key_isMark.ok x17 _ h) (LeL.eq rfl) (fun _ => rfl) (fun r8 => ?_)
            refine RS.go ?_
            refine RT.brB rfl (fun c15 => ?_) (fun c15 => ?_)
            · refine RT.call rfl (fun _ h => strings_Builder_WriteByte.ok v1000007 o1000007 45 _ h) (fun i => bif Nat.beq i 1100000 then 1000007 else bif Nat.beq i 100000 then 7 else i) (LeL.eq rfl) ⟨⟨_, rfl, LeO.refl _⟩, ⟨⟨_, rfl, LeO.refl _⟩, trivial⟩⟩ (fun _ => rfl) (fun r9 => ?_)
              refine RS.go ?_
              refine RT.goto rfl ?_
              refine RS.weak [(1, .int .i64 a1), (6, .ref 6 0 0 0 2), (7, .ref 7 0 0 0 2), (8, .fn 113 [.ref 6 0 0 0 2, .ref 5 0 0 0 1, .ref 7 0 0 0 2]), (15, sq eI l0), (16, .int .i64 (l0.length : Int)), (17, .int .i64 x17)] [(5, .box [.omap 13]), (6, .bx 136 1000006 v1000006 o1000006.size), (7, .bx 136 1000007 r9.1 r9.2.size), (13, mapE KL.strs (ByteArray.empty : ByteArray) AV.str o13), (1000006, .bb 5 v1000006 o1000006), (1000007, .bb 5 r9.1 r9.2)] ⟨Le.eq (by first | rfl | simp), Le.eq (by first | rfl | simp), Le.eq (by first | rfl | simp), Le.eq (by first | rfl | simp), Le.eq (by first | rfl | simp), Le.eq (by first | rfl | simp), Le.eq (by first | rfl | simp), trivial⟩ ⟨⟨_, rfl, LeO.refl _⟩, ⟨_, rfl, LeO.refl _⟩, ⟨_, rfl, LeO.refl _⟩, ⟨_, rfl, LeO.refl _⟩, ⟨_, rfl, LeO.refl _⟩, ⟨_, rfl, LeO.refl _⟩, trivial⟩ rfl (dom0 rfl) ?_
              exact ih.1 l0 a1 x17 o13 v1000006 o1000006 r9.1 r9.2 
            · refine RT.br rfl (fun c14 => ?_) (fun c14 => ?_)
              · refine RT.call rfl (fun _ h => key_read_1.ok v1000006 o1000006 o13 v1000007 o1000007 _ h) (fun i => bif Nat.beq i 1300002 then 1000007 else bif Nat.beq i 300002 then 7 else bif Nat.beq i 700001 then 13 else bif Nat.beq i 300001 then 5 else bif Nat.beq i 1300000 then 1000006 else bif Nat.beq i 300000 then 6 else i) (LeL.eq rfl) ⟨⟨_, rfl, LeO.refl _⟩, ⟨⟨_, rfl, LeO.refl _⟩, ⟨⟨_, rfl, LeO.refl _⟩, ⟨⟨_, rfl, LeO.refl _⟩, ⟨⟨_, rfl, LeO.refl _⟩, ⟨⟨_, rfl, LeO.refl _⟩, trivial⟩⟩⟩⟩⟩⟩ (fun _ => rfl) (fun r10 => ?_)
                refine RS.go ?_
                refine RT.goto rfl ?_
                refine RS.weak [(1, .int .i64 a1), (6, .ref 6 0 0 0 2), (7, .ref 7 0 0 0 2), (8, .fn 113 [.ref 6 0 0 0 2, .ref 5 0 0 0 1, .ref 7 0 0 0 2]), (15, sq eI l0), (16, .int .i64 (l0.length : Int)), (17, .int .i64 x17)] [(5, .box [.omap 13]), (6, .bx 136 1000006 r10.1 r10.2.1.size), (7, .bx 136 1000007 r10.2.2.1 r10.2.2.2.size), (13, mapE KL.strs (ByteArray.empty : ByteArray) AV.str o13), (1000006, .bb 5 r10.1 r10.2.1), (1000007, .bb 5 r10.2.2.1 r10.2.2.2)] ⟨Le.eq (by first | rfl | simp), Le.eq (by first | rfl | simp), Le.eq (by first | rfl | simp), Le.eq (by first | rfl | simp), Le.eq (by first | rfl | simp), Le.eq (by first | rfl | simp), Le.eq (by first | rfl | simp), trivial⟩ ⟨⟨_, rfl, LeO.refl _⟩, ⟨_, rfl, LeO.refl _⟩, ⟨_, rfl, LeO.refl _⟩, ⟨_, rfl, LeO.refl _⟩, ⟨_, rfl, LeO.refl _⟩, ⟨_, rfl, LeO.refl _⟩, trivial⟩ rfl (dom0 rfl) ?_
                exact ih.1 l0 a1 x17 o13 r10.1 r10.2.1 r10.2.2.1 r10.2.2.2 
              · refine RT.br rfl (fun c13 => ?_) (fun c13 => ?_)
                · refine RT.call rfl (fun _ h => key_read_1.ok v1000006 o1000006 o13 v1000007 o1000007 _ h) (fun i => bif Nat.beq i 1300002 then 1000007 else bif Nat.beq i 300002 then 7 else bif Nat.beq i 700001 then 13 else bif Nat.beq i 300001 then 5 else bif Nat.beq i 1300000 then 1000006 else bif Nat.beq i 300000 then 6 else i) (LeL.eq rfl) ⟨⟨_, rfl, LeO.refl _⟩, ⟨⟨_, rfl, LeO.refl _⟩, ⟨⟨_, rfl, LeO.refl _⟩, ⟨⟨_, rfl, LeO.refl _⟩, ⟨⟨_, rfl, LeO.refl _⟩, ⟨⟨_, rfl, LeO.refl _⟩, trivial⟩⟩⟩⟩⟩⟩ (fun _ => rfl) (fun r11 => ?_)
                  refine RS.go ?_
                  refine RT.call rfl (fun _ h => strings_Builder_WriteByte.ok r11.1 r11.2.1 32 _ h) (fun i => bif Nat.beq i 1100000 then 1000006 else bif Nat.beq i 100000 then 6 else i) (LeL.eq rfl) ⟨⟨_, rfl, LeO.refl _⟩, ⟨⟨_, rfl, LeO.refl _⟩, trivial⟩⟩ (fun _ => rfl) (fun r12 => ?_)
                  refine RS.go ?_
                  refine RT.goto rfl ?_
                  refine RS.weak [(1, .int .i64 a1), (6, .ref 6 0 0 0 2), (7, .ref 7 0 0 0 2), (8, .fn 113 [.ref 6 0 0 0 2, .ref 5 0 0 0 1, .ref 7 0 0 0 2]), (15, sq eI l0), (16, .int .i64 (l0.length : Int)), (17, .int .i64 x17)] [(5, .box [.omap 13]), (6, .bx 136 1000006 r12.1 r12.2.size), (7, .bx 136 1000007 r11.2.2.1 r11.2.2.2.size), (13, mapE KL.strs (ByteArray.empty : ByteArray) AV.str o13), (1000006, .bb 5 r12.1 r12.2), (1000007, .bb 5 r11.2.2.1 r11.2.2.2)] ⟨Le.eq (by first | rfl | simp), Le.eq (by first | rfl | simp), Le.eq (by first | rfl | simp), Le.eq (by first | rfl | simp), Le.eq (by first | rfl | simp), Le.eq (by first | rfl | simp), Le.eq (by first | rfl | simp), trivial⟩ ⟨⟨_, rfl, LeO.refl _⟩, ⟨_, rfl, LeO.refl _⟩, ⟨_, rfl, LeO.refl _⟩, ⟨_, rfl, LeO.refl _⟩, ⟨_, rfl, LeO.refl _⟩, ⟨_, rfl, LeO.refl _⟩, trivial⟩ rfl (dom0 rfl) ?_
                  exact ih.1 l0 a1 x17 o13 r12.1 r12.2 r11.2.2.1 r11.2.2.2 
                · refine RT.goto rfl ?_
                  refine RS.weak [(1, .int .i64 a1), (6, .ref 6 0 0 0 2), (7, .ref 7 0 0 0 2), (8, .fn 113 [.ref 6 0 0 0 2, .ref 5 0 0 0 1, .ref 7 0 0 0 2]), (15, sq eI l0), (16, .int .i64 (l0.length : Int)), (17, .int .i64 x17)] [(5, .box [.omap 13]), (6, .bx 136 1000006 v1000006 o1000006.size), (7, .bx 136 1000007 v1000007 o1000007.size), (13, mapE KL.strs (ByteArray.empty : ByteArray) AV.str o13), (1000006, .bb 5 v1000006 o1000006), (1000007, .bb 5 v1000007 o1000007)] ⟨Le.eq (by first | rfl | simp), Le.eq (by first | rfl | simp), Le.eq (by first | rfl | simp), Le.eq (by first | rfl | simp), Le.eq (by first | rfl | simp), Le.eq (by first | rfl | simp), Le.eq (by first | rfl | simp), trivial⟩ ⟨⟨_, rfl, LeO.refl _⟩, ⟨_, rfl, LeO.refl _⟩, ⟨_, rfl, LeO.refl _⟩, ⟨_, rfl, LeO.refl _⟩, ⟨_, rfl, LeO.refl _⟩, ⟨_, rfl, LeO.refl _⟩, trivial⟩ rfl (dom0 rfl) ?_
                  exact ih.1 l0 a1 x17 o13 v1000006 o1000006 v1000007 o1000007 
        · refine RT.brF rfl ?_
          refine RT.brF rfl ?_
          refine RT.brF rfl ?_
          refine RT.call0 rfl (fun _ h => key_isMark.ok x17 _ h) (LeL.eq rfl) (fun _ => rfl) (fun r17 => ?_)
          refine RS.go ?_
          refine RT.brB rfl (fun c24 => ?_) (fun c24 => ?_)
          · refine RT.call rfl (fun _ h => strings_Builder_WriteByte.ok v1000007 o1000007 45 _ h) (fun i => bif Nat.beq i 1100000 then 1000007 else bif Nat.beq i 100000 then 7 else i) (LeL.eq rfl) ⟨⟨_, rfl, LeO.refl _⟩, ⟨⟨_, rfl, LeO.refl _⟩, trivial⟩⟩ (fun _ => rfl) (fun r18 => ?_)
            refine RS.go ?_
            refine RT.goto rfl ?_
            refine RS.weak [(1, .int .i64 a1), (6, .ref 6 0 0 0 2), (7, .ref 7 0 0 0 2), (8, .fn 113 [.ref 6 0 0 0 2, .ref 5 0 0 0 1, .ref 7 0 0 0 2]), (15, sq eI l0), (16, .int .i64 (l0.length : Int)), (17, .int .i64 x17)] [(5, .box [.omap 13]), (6, .bx 136 1000006 v1000006 o1000006.size), (7, .bx 136 1000007 r18.1 r18.2.size), (13, mapE KL.strs (ByteArray.empty : ByteArray) AV.str o13), (1000006, .bb 5 v1000006 o1000006), (1000007, .bb 5 r18.1 r18.2)] ⟨Le.eq (by first | rfl | simp), Le.eq (by first | rfl | simp), Le.eq (by first | rfl | simp), Le.eq (by first | rfl | simp), Le.eq (by first | rfl | simp), Le.eq (by first | rfl | simp), Le.eq (by first | rfl | simp), trivial⟩ ⟨⟨_, rfl, LeO.refl _⟩, ⟨_, rfl, LeO.refl _⟩, ⟨_, rfl, LeO.refl _⟩, ⟨_, rfl, LeO.refl _⟩, ⟨_, rfl, LeO.refl _⟩, ⟨_, rfl, LeO.refl _⟩, trivial⟩ rfl (dom0 rfl) ?_
            exact ih.1 l0 a1 x17 o13 v1000006 o1000006 r18.1 r18.2 
          · refine RT.br rfl (fun c23 => ?_) (fun c23 => ?_)
            · refine RT.call rfl (fun _ h => key_read_1.ok v1000006 o1000006 o13 v1000007 o1000007 _ h) (fun i => bif Nat.beq i 1300002 then 1000007 else bif Nat.beq i 300002 then 7 else bif Nat.beq i 700001 then 13 else bif Nat.beq i 300001 then 5 else bif Nat.beq i 1300000 then 1000006 else bif Nat.beq i 300000 then 6 else i) (LeL.eq rfl) ⟨⟨_, rfl, LeO.refl _⟩, ⟨⟨_, rfl, LeO.refl _⟩, ⟨⟨_, rfl, LeO.refl _⟩, ⟨⟨_, rfl, LeO.refl _⟩, ⟨⟨_, rfl, LeO.refl _⟩, ⟨⟨_, rfl, LeO.refl _⟩, trivial⟩⟩⟩⟩⟩⟩ (fun _ => rfl) (fun r19 => ?_)
              refine RS.go ?_
              refine RT.goto rfl ?_
              refine RS.weak [(1, .int .i64 a1), (6, .ref 6 0 0 0 2), (7, .ref 7 0 0 0 2), (8, .fn 113 [.ref 6 0 0 0 2, .ref 5 0 0 0 1, .ref 7 0 0 0 2]), (15, sq eI l0), (16, .int .i64 (l0.length : Int)), (17, .int .i64 x17)] [(5, .box [.omap 13]), (6, .bx 136 1000006 r19.1 r19.2.1.size), (7, .bx 136 1000007 r19.2.2.1 r19.2.2.2.size), (13, mapE KL.strs (ByteArray.empty : ByteArray) AV.str o13), (1000006, .bb 5 r19.1 r19.2.1), (1000007, .bb 5 r19.2.2.1 r19.2.2.2)] ⟨Le.eq (by first | rfl | simp), Le.eq (by first | rfl | simp), Le.eq (by first | rfl | simp), Le.eq (by first | rfl | simp), Le.eq (by first | rfl | simp), Le.eq (by first | rfl | simp), Le.eq (by first | rfl | simp), trivial⟩ ⟨⟨_, rfl, LeO.refl _⟩, ⟨_, rfl, LeO.refl _⟩, ⟨_, rfl, LeO.refl _⟩, ⟨_, rfl, LeO.refl _⟩, ⟨_, rfl, LeO.refl _⟩, ⟨_, rfl, LeO.refl _⟩, trivial⟩ rfl (dom0 rfl) ?_
              exact ih.1 l0 a1 x17 o13 r19.1 r19.2.1 r19.2.2.1 r19.2.2.2 
            · refine RT.br rfl (fun c22 => ?_) (fun c22 => ?_)
              · refine RT.call rfl (fun _ h => key_read_1.ok v1000006 o1000006 o13 v1000007 o1000007 _ h) (fun i => bif Nat.beq i 1300002 then 1000007 else bif Nat.beq i 300002 then 7 else bif Nat.beq i 700001 then 13 else bif Nat.beq i 300001 then 5 else bif Nat.beq i 1300000 then 1000006 else bif Nat.beq i 300000 then 6 else i) (LeL.eq rfl) ⟨⟨_, rfl, LeO.refl _⟩, ⟨⟨_, rfl, LeO.refl _⟩, ⟨⟨_, rfl, LeO.refl _⟩, ⟨⟨_, rfl, LeO.refl _⟩, ⟨⟨_, rfl, LeO.refl _⟩, ⟨⟨_, rfl, LeO.refl _⟩, trivial⟩⟩⟩⟩⟩⟩ (fun _ => rfl) (fun r20 => ?_)
                refine RS.go ?_
                refine RT.call rfl (fun _ h => strings_Builder_WriteByte.ok r20.1 r20.2.1 32 _ h) (fun i => bif Nat.beq i 1100000 then 1000006 else bif Nat.beq i 100000 then 6 else i) (LeL.eq rfl) ⟨⟨_, rfl, LeO.refl _⟩, ⟨⟨_, rfl, LeO.refl _⟩, trivial⟩⟩ (fun _ => rfl) (fun r21 => ?_)
                refine RS.go ?_
                refine RT.goto rfl ?_
                refine RS.weak [(1, .int .i64 a1), (6, .ref 6 0 0 0 2), (7, .ref 7 0 0 0 2), (8, .fn 113 [.ref 6 0 0 0 2, .ref 5 0 0 0 1, .ref 7 0 0 0 2]), (15, sq eI l0), (16, .int .i64 (l0.length : Int)), (17, .int .i64 x17)] [(5, .box [.omap 13]), (6, .bx 136 1000006 r21.1 r21.2.size), (7, .bx 136 1000007 r20.2.2.1 r20.2.2.2.size), (13, mapE KL.strs (ByteArray.empty : ByteArray) AV.str o13), (1000006, .bb 5 r21.1 r21.2), (1000007, .bb 5 r20.2.2.1 r20.2.2.2)] ⟨Le.eq (by first | rfl | simp), Le.eq (by first | rfl | simp), Le.eq (by first | rfl | simp), Le.eq (by first | rfl | simp), Le.eq (by first | rfl | simp), Le.eq (by first | rfl | simp), Le.eq (by first | rfl | simp), trivial⟩ ⟨⟨_, rfl, LeO.refl _⟩, ⟨_, rfl, LeO.refl _⟩, ⟨_, rfl, LeO.refl _⟩, ⟨_, rfl, LeO.refl _⟩, ⟨_, rfl, LeO.refl _⟩, ⟨_, rfl, LeO.refl _⟩, trivial⟩ rfl (dom0 rfl) ?_
                exact ih.1 l0 a1 x17 o13 r21.1 r21.2 r20.2.2.1 r20.2.2.2 
              · refine RT.goto rfl ?_
                refine RS.weak [(1, .int .i64 a1), (6, .ref 6 0 0 0 2), (7, .ref 7 0 0 0 2), (8, .fn 113 [.ref 6 0 0 0 2, .ref 5 0 0 0 1, .ref 7 0 0 0 2]), (15, sq eI l0), (16, .int .i64 (l0.length : Int)), (17, .int .i64 x17)] [(5, .box [.omap 13]), (6, .bx 136 1000006 v1000006 o1000006.size), (7, .bx 136 1000007 v1000007 o1000007.size), (13, mapE KL.strs (ByteArray.empty : ByteArray) AV.str o13), (1000006, .bb 5 v1000006 o1000006), (1000007, .bb 5 v1000007 o1000007)] ⟨Le.eq (by first | rfl | simp), Le.eq (by first | rfl | simp), Le.eq (by first | rfl | simp), Le.eq (by first | rfl | simp), Le.eq (by first | rfl | simp), Le.eq (by first | rfl | simp), Le.eq (by first | rfl | simp), trivial⟩ ⟨⟨_, rfl, LeO.refl _⟩, ⟨_, rfl, LeO.refl _⟩, ⟨_, rfl, LeO.refl _⟩, ⟨_, rfl, LeO.refl _⟩, ⟨_, rfl, LeO.refl _⟩, ⟨_, rfl, LeO.refl _⟩, trivial⟩ rfl (dom0 rfl) ?_
                exact ih.1 l0 a1 x17 o13 v1000006 o1000006 v1000007 o1000007 
      · refine RT.call rfl (fun _ h => key_read_1.ok v1000006 o1000006 o13 v1000007 o1000007 _ h) (fun i => bif Nat.beq i 1300002 then 1000007 else bif Nat.beq i 300002 then 7 else bif Nat.beq i 700001 then 13 else bif Nat.beq i 300001 then 5 else bif Nat.beq i 1300000 then 1000006 else bif Nat.beq i 300000 then 6 else i) (LeL.eq rfl) ⟨⟨_, rfl, LeO.refl _⟩, ⟨⟨_, rfl, LeO.refl _⟩, ⟨⟨_, rfl, LeO.refl _⟩, ⟨⟨_, rfl, LeO.refl _⟩, ⟨⟨_, rfl, LeO.refl _⟩, ⟨⟨_, rfl, LeO.refl _⟩, trivial⟩⟩⟩⟩⟩⟩ (fun _ => rfl) (fun r26 => ?_)
        refine RS.go ?_
        refine RT.call rfl (fun _ h => strings_Builder_String.ok r26.1 r26.2.1 _ h) (fun i => bif Nat.beq i 1100000 then 1000006 else bif Nat.beq i 100000 then 6 else i) (LeL.eq rfl) ⟨⟨_, rfl, LeO.refl _⟩, ⟨⟨_, rfl, LeO.refl _⟩, trivial⟩⟩ (fun _ => rfl) (fun r27 => ?_)
        refine RS.go ?_
        exact RT.done rfl rfl (Le.refl _) trivial rfl (dom0 rfl)
theorem key_read.ok (k : Nat) (l0 : List Int) (a1 : Int) (r : ByteArray) (h : key_read.f k l0 a1 = some r) : Ct Tryz.prog B 58 [sq eI l0, .int .i64 a1] (ofL []) (.str r) (ofL []) := by
  refine Ct.of (Y := (fam Tryz.f58 [17] [] [] (fun r : ByteArray => .str r) (fun r => []))) Tryz.func58 rfl Tryz.call58 rfl rfl ?_ r h
  unfold key_read.f
  refine RS.go ?_
  refine RT.call rfl (fun _ h => key_byCodes.ok k  _ h) (fun i => bif Nat.beq i 4 then 13 else i) (LeL.eq rfl) trivial (fun _ => rfl) (fun r1 => ?_)
  refine RS.go ?_
  refine RT.goto rfl ?_
  refine RS.bdnew 1000006 5 rfl ?_
  refine RS.obj 6 (.bx 136 1000006 0 ByteArray.empty.size) ⟨_, rfl, LeO.refl _⟩ ?_
  refine RS.go ?_
  refine RT.goto rfl ?_
  refine RS.bdnew 1000007 5 rfl ?_
  refine RS.obj 7 (.bx 136 1000007 0 ByteArray.empty.size) ⟨_, rfl, LeO.refl _⟩ ?_
  refine RS.go ?_
  refine RT.goto rfl ?_
  refine RS.weak [(1, .int .i64 a1), (6, .ref 6 0 0 0 2), (7, .ref 7 0 0 0 2), (8, .fn 113 [.ref 6 0 0 0 2, .ref 5 0 0 0 1, .ref 7 0 0 0 2]), (15, sq eI l0), (16, .int .i64 (l0.length : Int)), (17, .int .i64 0)] [(5, .box [.omap 13]), (6, .bx 136 1000006 0 ByteArray.empty.size), (7, .bx 136 1000007 0 ByteArray.empty.size), (13, mapE KL.strs (ByteArray.empty : ByteArray) AV.str r1), (1000006, .bb 5 0 ByteArray.empty), (1000007, .bb 5 0 ByteArray.empty)] ⟨Le.eq (by first | rfl | simp), Le.eq (by first | rfl | simp), Le.eq (by first | rfl | simp), Le.eq (by first | rfl | simp), Le.eq (by first | rfl | simp), Le.eq (by first | rfl | simp), Le.eq (by first | rfl | simp), trivial⟩ ⟨⟨_, rfl, LeO.refl _⟩, ⟨_, rfl, LeO.refl _⟩, ⟨_, rfl, LeO.refl _⟩, ⟨_, rfl, LeO.refl _⟩, ⟨_, rfl, LeO.refl _⟩, ⟨_, rfl, LeO.refl _⟩, trivial⟩ rfl (dom0 rfl) ?_
  exact (key_read.loops k).2 l0 a1 0 r1 0 ByteArray.empty 0 ByteArray.empty 
/-! ### key_Hear: function 19 -/
mutual
def key_Hear.j7 : Nat → List Int → Int → Int → Int → Option (ByteArray × Int × Int × Bool × Int)
  | 0, _, _, _, _ => Option.none
  | k + 1, l0, x8, x6j7, x7j7 => key_Hear.l0 k l0 x6j7 x7j7 (wrap64 (x8 + 1))
def key_Hear.l0 : Nat → List Int → Int → Int → Int → Option (ByteArray × Int × Int × Bool × Int)
  | 0, _, _, _, _ => Option.none
  | k + 1, l0, x6, x7, x8 => (if x8 ≤ 2000 then ((key_offOf.f k l0 x8).bind fun r2 => (if x6 = 0 then key_Hear.j7 k l0 x8 x8 r2 else (if r2 ≤ x7 then key_Hear.j7 k l0 x8 x8 r2 else key_Hear.j7 k l0 x8 x6 x7))) else ((key_read.f k l0 x6).bind fun r5 => (if (r5.size : Int) > 500 then Option.some ((⟨#[]⟩ : ByteArray), 0, 0, false, 0) else Option.some (r5, x6, x7, true, 0))))
end
def key_Hear.f (k : Nat) (l0 : List Int) : Option (ByteArray × Int × Int × Bool × Int) := ((key_CheckMarks.f k l0).bind fun r1 => (if r1 = 0 then key_Hear.l0 k l0 0 0 1 else Option.some ((⟨#[]⟩ : ByteArray), 0, 0, false, r1)))
theorem key_Hear.loops : ∀ k, (∀ (l0 : List Int) (x8 : Int) (x6j7 : Int) (x7j7 : Int), RS (fam Tryz.f19 [7] [] [] (fun r : ByteArray × Int × Int × Bool × Int => .tup [.agg [.str r.1, .int .i64 r.2.1, .int .i64 r.2.2.1], .bool r.2.2.2.1, .int .i64 r.2.2.2.2]) (fun r => [])) (Func.reg Tryz.f19 7) ⟨ofT [(0, sq eI l0), (2, .ref 2 0 0 0 3), (6, .int .i64 x6j7), (7, .int .i64 x7j7), (8, .int .i64 x8)], ofL [(2, .box [.str (⟨#[]⟩ : ByteArray), .int .i64 0, .int .i64 0])]⟩ (key_Hear.j7 k l0 x8 x6j7 x7j7)) ∧ (∀ (l0 : List Int) (x6 : Int) (x7 : Int) (x8 : Int), RS (fam Tryz.f19 [7] [] [] (fun r : ByteArray × Int × Int × Bool × Int => .tup [.agg [.str r.1, .int .i64 r.2.1, .int .i64 r.2.2.1], .bool r.2.2.2.1, .int .i64 r.2.2.2.2]) (fun r => [])) (Func.head Tryz.f19 0) ⟨ofT [(0, sq eI l0), (2, .ref 2 0 0 0 3), (6, .int .i64 x6), (7, .int .i64 x7), (8, .int .i64 x8)], ofL [(2, .box [.str (⟨#[]⟩ : ByteArray), .int .i64 0, .int .i64 0])]⟩ (key_Hear.l0 k l0 x6 x7 x8))
  | 0 => ⟨by intro _ _ _ _; simp only [key_Hear.j7]; exact RS.none, by intro _ _ _ _; simp only [key_Hear.l0]; exact RS.none⟩
  | k + 1 => by
    have ih := key_Hear.loops k
    refine ⟨?_, ?_⟩
    · intro l0 x8 x6j7 x7j7
      simp only [key_Hear.j7]
      refine RS.region ?_
      refine RS.go ?_
      refine RT.goto rfl ?_
      refine RS.weak [(0, sq eI l0), (2, .ref 2 0 0 0 3), (6, .int .i64 x6j7), (7, .int .i64 x7j7), (8, .int .i64 (wrap64 (x8 + 1)))] [(2, .box [.str (⟨#[]⟩ : ByteArray), .int .i64 0, .int .i64 0])] ⟨Le.eq (by first | rfl | simp), Le.eq (by first | rfl | simp), Le.eq (by first | rfl | simp), Le.eq (by first | rfl | simp), Le.eq (by first | rfl | simp), trivial⟩ ⟨⟨_, rfl, LeO.refl _⟩, trivial⟩ rfl (dom0 rfl) ?_
      exact ih.2 l0 x6j7 x7j7 (wrap64 (x8 + 1)) 
    · intro l0 x6 x7 x8
      simp only [key_Hear.l0]
      refine RS.go ?_
      refine RT.br rfl (fun c7 => ?_) (fun c7 => ?_)
      · refine RT.call0 rfl (fun _ h => key_offOf.ok k l0 x8 _ h) (LeL.eq rfl) (fun _ => rfl) (fun r2 => ?_)
        refine RS.go ?_
        refine RT.br rfl (fun c4 => ?_) (fun c4 => ?_)
        · refine RT.brT rfl ?_
          refine RT.brT rfl ?_
          refine RT.brT rfl ?_
          refine RT.brT rfl ?_
          refine RT.goto rfl ?_
          refine RS.weak [(0, sq eI l0), (2, .ref 2 0 0 0 3), (6, .int .i64 x8), (7, .int .i64 r2), (8, .int .i64 x8)] [(2, .box [.str (⟨#[]⟩ : ByteArray), .int .i64 0, .int .i64 0])] ⟨Le.eq (by first | rfl | simp), Le.eq (by first | rfl | simp), Le.eq (by first | rfl | simp), Le.eq (by first | rfl | simp), Le.eq (by first | rfl | simp), trivial⟩ ⟨⟨_, rfl, LeO.refl _⟩, trivial⟩ rfl (dom0 rfl) ?_
          exact ih.1 l0 x8 x8 r2 
        · refine RT.brF rfl ?_
          refine RT.brF rfl ?_
          refine RT.brF rfl ?_
          refine RT.br rfl (fun c3 => ?_) (fun c3 => ?_)
          · refine RT.goto rfl ?_
            refine RS.weak [(0, sq eI l0), (2, .ref 2 0 0 0 3), (6, .int .i64 x8), (7, .int .i64 r2), (8, .int .i64 x8)] [(2, .box [.str (⟨#[]⟩ : ByteArray), .int .i64 0, .int .i64 0])] ⟨Le.eq (by first | rfl | simp), Le.eq (by first | rfl | simp), Le.eq (by first | rfl | simp), Le.eq (by first | rfl | simp), Le.eq (by first | rfl | simp), trivial⟩ ⟨⟨_, rfl, LeO.refl _⟩, trivial⟩ rfl (dom0 rfl) ?_
            exact ih.1 l0 x8 x8 r2 
          · refine RT.goto rfl ?_
            refine RS.weak [(0, sq eI l0), (2, .ref 2 0 0 0 3), (6, .int .i64 x6), (7, .int .i64 x7), (8, .int .i64 x8)] [(2, .box [.str (⟨#[]⟩ : ByteArray), .int .i64 0, .int .i64 0])] ⟨Le.eq (by first | rfl | simp), Le.eq (by first | rfl | simp), Le.eq (by first | rfl | simp), Le.eq (by first | rfl | simp), Le.eq (by first | rfl | simp), trivial⟩ ⟨⟨_, rfl, LeO.refl _⟩, trivial⟩ rfl (dom0 rfl) ?_
            exact ih.1 l0 x8 x6 x7 
      · refine RT.call0 rfl (fun _ h => key_read.ok k l0 x6 _ h) (LeL.eq rfl) (fun _ => rfl) (fun r5 => ?_)
        refine RS.go ?_
        refine RT.br rfl (fun c6 => ?_) (fun c6 => ?_)
        · exact RT.done rfl rfl (Le.tup (LeL.cons (Le.refl _) (LeL.cons (Le.refl _) (LeL.cons (Le.refl _) (LeL.nil))))) trivial rfl (dom0 rfl)
        · exact RT.done rfl rfl (Le.tup (LeL.cons (Le.refl _) (LeL.cons (Le.refl _) (LeL.cons (Le.refl _) (LeL.nil))))) trivial rfl (dom0 rfl)
theorem key_Hear.ok (k : Nat) (l0 : List Int) (r : ByteArray × Int × Int × Bool × Int) (h : key_Hear.f k l0 = some r) : Ct Tryz.prog B 19 [sq eI l0] (ofL []) (.tup [.agg [.str r.1, .int .i64 r.2.1, .int .i64 r.2.2.1], .bool r.2.2.2.1, .int .i64 r.2.2.2.2]) (ofL []) := by
  refine Ct.of (Y := (fam Tryz.f19 [7] [] [] (fun r : ByteArray × Int × Int × Bool × Int => .tup [.agg [.str r.1, .int .i64 r.2.1, .int .i64 r.2.2.1], .bool r.2.2.2.1, .int .i64 r.2.2.2.2]) (fun r => []))) Tryz.func19 rfl Tryz.call19 rfl rfl ?_ r h
  unfold key_Hear.f
  refine RS.go ?_
  refine RT.call0 rfl (fun _ h => key_CheckMarks.ok k l0 _ h) (LeL.eq rfl) (fun _ => rfl) (fun r1 => ?_)
  refine RS.go ?_
  refine RT.brN rfl (fun c8 => ?_) (fun c8 => ?_)
  · refine RT.goto rfl ?_
    refine RS.weak [(0, sq eI l0), (2, .ref 2 0 0 0 3), (6, .int .i64 0), (7, .int .i64 0), (8, .int .i64 1)] [(2, .box [.str (⟨#[]⟩ : ByteArray), .int .i64 0, .int .i64 0])] ⟨Le.eq (by first | rfl | simp), Le.eq (by first | rfl | simp), Le.eq (by first | rfl | simp), Le.eq (by first | rfl | simp), Le.eq (by first | rfl | simp), trivial⟩ ⟨⟨_, rfl, LeO.refl _⟩, trivial⟩ rfl (dom0 rfl) ?_
    exact (key_Hear.loops k).2 l0 0 0 1 
  · exact RT.done rfl rfl (Le.tup (LeL.cons (Le.refl _) (LeL.cons (Le.refl _) (LeL.cons (Le.refl _) (LeL.nil))))) trivial rfl (dom0 rfl)
/-! ### slices_Equal_int_int: function 21 -/
def slices_Equal_int_int.k0 : List DK := [⟨[19, 23], [], [24], []⟩, ⟨[22], [], [23], []⟩, ⟨[20, 21], [], [22], []⟩, ⟨[5], [], [21], []⟩, ⟨[1], [], [20], []⟩, ⟨[18], [], [19], []⟩, ⟨[16, 17], [], [18], []⟩, ⟨[5], [], [17], []⟩, ⟨[0], [], [16], []⟩]
def slices_Equal_int_int.k1 : List Nat := [0, 0, 3, 7, 0, 0, 48, 112, 255]
def slices_Equal_int_int.l0 : Nat → List Int → List Int → Int → Option (Bool)
  | 0, _, _, _ => Option.none
  | k + 1, l0, l1, x13 => (if x13 < (l0.length : Int) then (if 0 ≤ x13 then (if x13 < (l0.length : Int) then (if 0 ≤ x13 then (if x13 < (l1.length : Int) then (if (rd l0 x13) = (rd l1 x13) then slices_Equal_int_int.l0 k l0 l1 (wrap64 (x13 + 1)) else Option.some false) else Option.none) else Option.none) else Option.none) else Option.none) else Option.some true)
def slices_Equal_int_int.f (k : Nat) (l0 : List Int) (l1 : List Int) : Option (Bool) := (if (l0.length : Int) = (l1.length : Int) then slices_Equal_int_int.l0 k l0 l1 0 else Option.some false)
theorem slices_Equal_int_int.loops : ∀ k, (∀ (l0 : List Int) (l1 : List Int) (x13 : Int), RS (fam Tryz.f21 [] [] [] (fun r : Bool => .bool r) (fun r => [])) (Func.head Tryz.f21 0) ⟨ofT [(0, sq eI l0), (1, sq eI l1), (12, .int .i64 (l0.length : Int)), (13, .int .i64 x13)], ofL []⟩ (slices_Equal_int_int.l0 k l0 l1 x13))
  | 0 => by intro _ _ _; simp only [slices_Equal_int_int.l0]; exact RS.none
  | k + 1 => by
    have ih := slices_Equal_int_int.loops k
    · intro l0 l1 x13
      simp only [slices_Equal_int_int.l0]
      refine RS.go ?_
      refine RT.br rfl (fun c6 => ?_) (fun c6 => ?_)
      · refine RT.goto rfl ?_
        refine RS.draw rfl ?_
        refine RD.br rfl (fun c1 => ?_) (fun c1 => RD.none)
        refine RD.br rfl (fun c2 => ?_) (fun c2 => RD.none)
        refine RD.br rfl (fun c3 => ?_) (fun c3 => RD.none)
        refine RD.br rfl (fun c4 => ?_) (fun c4 => RD.none)
        refine RD.fin slices_Equal_int_int.k0 slices_Equal_int_int.k1 rfl rfl (by decide +kernel) ?_
        refine RS.go ?_
        refine RT.brN rfl (fun c5 => ?_) (fun c5 => ?_)
        · refine RT.goto rfl ?_
          refine RS.weak [(0, sq eI l0), (1, sq eI l1), (12, .int .i64 (l0.length : Int)), (13, .int .i64 (wrap64 (x13 + 1)))] [] ⟨Le.eq (by first | rfl | simp), Le.eq (by first | rfl | simp), Le.eq (by first | rfl | simp), Le.eq (by first | rfl | simp), trivial⟩ trivial rfl (dom0 rfl) ?_
          exact ih l0 l1 (wrap64 (x13 + 1)) 
        · exact RT.done rfl rfl (Le.refl _) trivial rfl (dom0 rfl)
      · exact RT.done rfl rfl (Le.refl _) trivial rfl (dom0 rfl)
theorem slices_Equal_int_int.ok (k : Nat) (l0 : List Int) (l1 : List Int) (r : Bool) (h : slices_Equal_int_int.f k l0 l1 = some r) : Ct Tryz.prog B 21 [sq eI l0, sq eI l1] (ofL []) (.bool r) (ofL []) := by
  refine Ct.of (Y := (fam Tryz.f21 [] [] [] (fun r : Bool => .bool r) (fun r => []))) Tryz.func21 rfl Tryz.call21 rfl rfl ?_ r h
  unfold slices_Equal_int_int.f
  refine RS.go ?_
  refine RT.brN rfl (fun c7 => ?_) (fun c7 => ?_)
  · refine RT.goto rfl ?_
    refine RS.weak [(0, sq eI l0), (1, sq eI l1), (12, .int .i64 (l0.length : Int)), (13, .int .i64 0)] [] ⟨Le.eq (by first | rfl | simp), Le.eq (by first | rfl | simp), Le.eq (by first | rfl | simp), Le.eq (by first | rfl | simp), trivial⟩ trivial rfl (dom0 rfl) ?_
    exact slices_Equal_int_int.loops k l0 l1 0 
  · exact RT.done rfl rfl (Le.refl _) trivial rfl (dom0 rfl)
/-! ### slices_Equal_api_Signed_api_Signed: function 22 -/
def slices_Equal_api_Signed_api_Signed.k0 : List DK := [⟨[19, 23], [], [24], []⟩, ⟨[22], [], [23], []⟩, ⟨[20, 21], [], [22], []⟩, ⟨[5], [], [21], []⟩, ⟨[1], [], [20], []⟩, ⟨[18], [], [19], []⟩, ⟨[16, 17], [], [18], []⟩, ⟨[5], [], [17], []⟩, ⟨[0], [], [16], []⟩]
def slices_Equal_api_Signed_api_Signed.k1 : List Nat := [0, 0, 3, 7, 0, 0, 48, 112, 255]
def slices_Equal_api_Signed_api_Signed.l0 : Nat → List (ByteArray × ByteArray) → List (ByteArray × ByteArray) → Int → Option (Bool)
  | 0, _, _, _ => Option.none
  | k + 1, l0, l1, x13 => (if x13 < (l0.length : Int) then (if 0 ≤ x13 then (if x13 < (l0.length : Int) then (if 0 ≤ x13 then (if x13 < (l1.length : Int) then (if (decide ((rdE e_SS l0 x13).1 = (rdE e_SS l1 x13).1) && (decide ((rdE e_SS l0 x13).2 = (rdE e_SS l1 x13).2) && true)) = true then slices_Equal_api_Signed_api_Signed.l0 k l0 l1 (wrap64 (x13 + 1)) else Option.some false) else Option.none) else Option.none) else Option.none) else Option.none) else Option.some true)
def slices_Equal_api_Signed_api_Signed.f (k : Nat) (l0 : List (ByteArray × ByteArray)) (l1 : List (ByteArray × ByteArray)) : Option (Bool) := (if (l0.length : Int) = (l1.length : Int) then slices_Equal_api_Signed_api_Signed.l0 k l0 l1 0 else Option.some false)
theorem slices_Equal_api_Signed_api_Signed.loops : ∀ k, (∀ (l0 : List (ByteArray × ByteArray)) (l1 : List (ByteArray × ByteArray)) (x13 : Int), RS (fam Tryz.f22 [] [] [] (fun r : Bool => .bool r) (fun r => [])) (Func.head Tryz.f22 0) ⟨ofT [(0, sq e_SS l0), (1, sq e_SS l1), (12, .int .i64 (l0.length : Int)), (13, .int .i64 x13)], ofL []⟩ (slices_Equal_api_Signed_api_Signed.l0 k l0 l1 x13))
  | 0 => by intro _ _ _; simp only [slices_Equal_api_Signed_api_Signed.l0]; exact RS.none
  | k + 1 => by
    have ih := slices_Equal_api_Signed_api_Signed.loops k
    · intro l0 l1 x13
      simp only [slices_Equal_api_Signed_api_Signed.l0]
      refine RS.go ?_
      refine RT.br rfl (fun c6 => ?_) (fun c6 => ?_)
      · refine RT.goto rfl ?_
        refine RS.draw rfl ?_
        refine RD.br rfl (fun c1 => ?_) (fun c1 => RD.none)
        refine RD.br rfl (fun c2 => ?_) (fun c2 => RD.none)
        refine RD.br rfl (fun c3 => ?_) (fun c3 => RD.none)
        refine RD.br rfl (fun c4 => ?_) (fun c4 => RD.none)
        refine RD.fin slices_Equal_api_Signed_api_Signed.k0 slices_Equal_api_Signed_api_Signed.k1 rfl rfl (by decide +kernel) ?_
        refine RS.go ?_
        refine RT.brBN rfl (fun c5 => ?_) (fun c5 => ?_)
        · refine RT.goto rfl ?_
          refine RS.weak [(0, sq e_SS l0), (1, sq e_SS l1), (12, .int .i64 (l0.length : Int)), (13, .int .i64 (wrap64 (x13 + 1)))] [] ⟨Le.eq (by first | rfl | simp), Le.eq (by first | rfl | simp), Le.eq (by first | rfl | simp), Le.eq (by first | rfl | simp), trivial⟩ trivial rfl (dom0 rfl) ?_
          exact ih l0 l1 (wrap64 (x13 + 1)) 
        · exact RT.done rfl rfl (Le.refl _) trivial rfl (dom0 rfl)
      · exact RT.done rfl rfl (Le.refl _) trivial rfl (dom0 rfl)
theorem slices_Equal_api_Signed_api_Signed.ok (k : Nat) (l0 : List (ByteArray × ByteArray)) (l1 : List (ByteArray × ByteArray)) (r : Bool) (h : slices_Equal_api_Signed_api_Signed.f k l0 l1 = some r) : Ct Tryz.prog B 22 [sq e_SS l0, sq e_SS l1] (ofL []) (.bool r) (ofL []) := by
  refine Ct.of (Y := (fam Tryz.f22 [] [] [] (fun r : Bool => .bool r) (fun r => []))) Tryz.func22 rfl Tryz.call22 rfl rfl ?_ r h
  unfold slices_Equal_api_Signed_api_Signed.f
  refine RS.go ?_
  refine RT.brN rfl (fun c7 => ?_) (fun c7 => ?_)
  · refine RT.goto rfl ?_
    refine RS.weak [(0, sq e_SS l0), (1, sq e_SS l1), (12, .int .i64 (l0.length : Int)), (13, .int .i64 0)] [] ⟨Le.eq (by first | rfl | simp), Le.eq (by first | rfl | simp), Le.eq (by first | rfl | simp), Le.eq (by first | rfl | simp), trivial⟩ trivial rfl (dom0 rfl) ?_
    exact slices_Equal_api_Signed_api_Signed.loops k l0 l1 0 
  · exact RT.done rfl rfl (Le.refl _) trivial rfl (dom0 rfl)
/-! ### call_isLetter: function 215 -/
def call_isLetter.f (a0 : Int) : Option (Bool) := (if a0 ≥ 97 then Option.some (decide (a0 ≤ 122)) else Option.some false)
theorem call_isLetter.ok (a0 : Int) (r : Bool) (h : call_isLetter.f a0 = some r) : Ct Tryz.prog B 215 [.int .u8 a0] (ofL []) (.bool r) (ofL []) := by
  refine Ct.of (Y := (fam Tryz.f215 [] [] [] (fun r : Bool => .bool r) (fun r => []))) Tryz.func215 rfl Tryz.call215 rfl rfl ?_ r h
  unfold call_isLetter.f
  refine RS.go ?_
  refine RT.br rfl (fun c1 => ?_) (fun c1 => ?_)
  · refine RT.brT rfl ?_
    refine RT.brT rfl ?_
    exact RT.done rfl rfl (Le.refl _) trivial rfl (dom0 rfl)
  · refine RT.brF rfl ?_
    refine RT.brF rfl ?_
    exact RT.done rfl rfl (Le.refl _) trivial rfl (dom0 rfl)
/-! ### call_isDigit: function 168 -/
def call_isDigit.f (a0 : Int) : Option (Bool) := (if a0 ≥ 48 then Option.some (decide (a0 ≤ 57)) else Option.some false)
theorem call_isDigit.ok (a0 : Int) (r : Bool) (h : call_isDigit.f a0 = some r) : Ct Tryz.prog B 168 [.int .u8 a0] (ofL []) (.bool r) (ofL []) := by
  refine Ct.of (Y := (fam Tryz.f168 [] [] [] (fun r : Bool => .bool r) (fun r => []))) Tryz.func168 rfl Tryz.call168 rfl rfl ?_ r h
  unfold call_isDigit.f
  refine RS.go ?_
  refine RT.br rfl (fun c1 => ?_) (fun c1 => ?_)
  · refine RT.brT rfl ?_
    refine RT.brT rfl ?_
    exact RT.done rfl rfl (Le.refl _) trivial rfl (dom0 rfl)
  · refine RT.brF rfl ?_
    refine RT.brF rfl ?_
    exact RT.done rfl rfl (Le.refl _) trivial rfl (dom0 rfl)
/-! ### call_isPlain: function 167 -/
mutual
def call_isPlain.j8 : Nat → ByteArray → Int → Int → Option (Int × Bool)
  | 0, _, _, _ => Option.none
  | k + 1, a0, x7, x2j8 => call_isPlain.l0 k a0 x2j8 (wrap64 (x7 + 1))
def call_isPlain.l0 : Nat → ByteArray → Int → Int → Option (Int × Bool)
  | 0, _, _, _ => Option.none
  | k + 1, a0, x2, x7 => (if x7 < (a0.size : Int) then (if 0 ≤ x7 then (if x7 < (a0.size : Int) then ((call_isLetter.f (bt a0 x7)).bind fun r3 => (if r3 = true then call_isPlain.j8 k a0 x7 (wrap64 (x2 + 1)) else (if 0 ≤ x7 then (if x7 < (a0.size : Int) then ((call_isDigit.f (bt a0 x7)).bind fun r6 => (if r6 = true then call_isPlain.j8 k a0 x7 x2 else Option.some (0, false))) else Option.none) else Option.none))) else Option.none) else Option.none) else Option.some (x2, true))
end
def call_isPlain.f (k : Nat) (a0 : ByteArray) : Option (Int × Bool) := call_isPlain.l0 k a0 0 0
theorem call_isPlain.loops : ∀ k, (∀ (a0 : ByteArray) (x7 : Int) (x2j8 : Int), RS (fam Tryz.f167 [8] [] [] (fun r : Int × Bool => .tup [.int .i64 r.1, .bool r.2]) (fun r => [])) (Func.reg Tryz.f167 8) ⟨ofT [(0, .str a0), (2, .int .i64 x2j8), (6, .int .i64 (a0.size : Int)), (7, .int .i64 x7)], ofL []⟩ (call_isPlain.j8 k a0 x7 x2j8)) ∧ (∀ (a0 : ByteArray) (x2 : Int) (x7 : Int), RS (fam Tryz.f167 [8] [] [] (fun r : Int × Bool => .tup [.int .i64 r.1, .bool r.2]) (fun r => [])) (Func.head Tryz.f167 0) ⟨ofT [(0, .str a0), (2, .int .i64 x2), (6, .int .i64 (a0.size : Int)), (7, .int .i64 x7)], ofL []⟩ (call_isPlain.l0 k a0 x2 x7))
  | 0 => ⟨by intro _ _ _; simp only [call_isPlain.j8]; exact RS.none, by intro _ _ _; simp only [call_isPlain.l0]; exact RS.none⟩
  | k + 1 => by
    have ih := call_isPlain.loops k
    refine ⟨?_, ?_⟩
    · intro a0 x7 x2j8
      simp only [call_isPlain.j8]
      refine RS.region ?_
      refine RS.go ?_
      refine RT.goto rfl ?_
      refine RS.weak [(0, .str a0), (2, .int .i64 x2j8), (6, .int .i64 (a0.size : Int)), (7, .int .i64 (wrap64 (x7 + 1)))] [] ⟨Le.eq (by first | rfl | simp), Le.eq (by first | rfl | simp), Le.eq (by first | rfl | simp), Le.eq (by first | rfl | simp), trivial⟩ trivial rfl (dom0 rfl) ?_
      exact ih.2 a0 x2j8 (wrap64 (x7 + 1)) 
    · intro a0 x2 x7
      simp only [call_isPlain.l0]
      refine RS.go ?_
      refine RT.br rfl (fun c9 => ?_) (fun c9 => ?_)
      · refine RT.br rfl (fun c1 => ?_) (fun c1 => RT.none)
        refine RT.br rfl (fun c2 => ?_) (fun c2 => RT.none)
        refine RT.call0 rfl (fun _ h => call_isLetter.ok (bt a0 x7) _ h) (LeL.eq rfl) (fun _ => rfl) (fun r3 => ?_)
        refine RS.go ?_
        refine RT.brB rfl (fun c8 => ?_) (fun c8 => ?_)
        · refine RT.goto rfl ?_
          refine RS.weak [(0, .str a0), (2, .int .i64 (wrap64 (x2 + 1))), (6, .int .i64 (a0.size : Int)), (7, .int .i64 x7)] [] ⟨Le.eq (by first | rfl | simp), Le.eq (by first | rfl | simp), Le.eq (by first | rfl | simp), Le.eq (by first | rfl | simp), trivial⟩ trivial rfl (dom0 rfl) ?_
          exact ih.1 a0 x7 (wrap64 (x2 + 1)) 
        · refine RT.br rfl (fun c4 => ?_) (fun c4 => RT.none)
          refine RT.br rfl (fun c5 => ?_) (fun c5 => RT.none)
          refine RT.call0 rfl (fun _ h => call_isDigit.ok (bt a0 x7) _ h) (LeL.eq rfl) (fun _ => rfl) (fun r6 => ?_)
          refine RS.go ?_
          refine RT.brBN rfl (fun c7 => ?_) (fun c7 => ?_)
          · refine RT.goto rfl ?_
            refine RS.weak [(0, .str a0), (2, .int .i64 x2), (6, .int .i64 (a0.size : Int)), (7, .int .i64 x7)] [] ⟨Le.eq (by first | rfl | simp), Le.eq (by first | rfl | simp), Le.eq (by first | rfl | simp), Le.eq (by first | rfl | simp), trivial⟩ trivial rfl (dom0 rfl) ?_
            exact ih.1 a0 x7 x2 
          · exact RT.done rfl rfl (Le.tup (LeL.cons (Le.refl _) (LeL.cons (Le.refl _) (LeL.nil)))) trivial rfl (dom0 rfl)
      · exact RT.done rfl rfl (Le.tup (LeL.cons (Le.refl _) (LeL.cons (Le.refl _) (LeL.nil)))) trivial rfl (dom0 rfl)
theorem call_isPlain.ok (k : Nat) (a0 : ByteArray) (r : Int × Bool) (h : call_isPlain.f k a0 = some r) : Ct Tryz.prog B 167 [.str a0] (ofL []) (.tup [.int .i64 r.1, .bool r.2]) (ofL []) := by
  refine Ct.of (Y := (fam Tryz.f167 [8] [] [] (fun r : Int × Bool => .tup [.int .i64 r.1, .bool r.2]) (fun r => []))) Tryz.func167 rfl Tryz.call167 rfl rfl ?_ r h
  unfold call_isPlain.f
  refine RS.go ?_
  refine RT.goto rfl ?_
  refine RS.weak [(0, .str a0), (2, .int .i64 0), (6, .int .i64 (a0.size : Int)), (7, .int .i64 0)] [] ⟨Le.eq (by first | rfl | simp), Le.eq (by first | rfl | simp), Le.eq (by first | rfl | simp), Le.eq (by first | rfl | simp), trivial⟩ trivial rfl (dom0 rfl) ?_
  exact (call_isPlain.loops k).2 a0 0 0 
def strings_IndexRune.f (a0 : ByteArray) (a1 : Int) : Option (Int) := if 0 ≤ a1 ∧ a1 < 128 then some (Lib.indexByte a0.data.toList a1.toNat.toUInt8) else none
theorem strings_IndexRune.ok (a0 : ByteArray) (a1 : Int) (r : Int) (h : strings_IndexRune.f a0 a1 = some r) : Ct Tryz.prog B 141 [.str a0, .int .i32 a1] (ofL []) (.int .i64 r) (ofL []) := by
  unfold strings_IndexRune.f at h
  split at h
  case isFalse => cases h
  case isTrue c =>
  cases h
  refine Ct.lib Tryz.call141 rfl rfl fun g w hb => (Tryz.strings_IndexRune_ascii a0 a1 w c.1 c.2).mono fun e w' ⟨he, hw⟩ => ⟨he, hw ▸ Below.refl _ _⟩

/-! ### strings_shouldUseASCIISet: function 239 -/
def strings_shouldUseASCIISet.f (a0 : Int) : Option (Bool) := Option.some (decide (a0 > 8))
theorem strings_shouldUseASCIISet.ok (a0 : Int) (r : Bool) (h : strings_shouldUseASCIISet.f a0 = some r) : Ct Tryz.prog B 239 [.int .i64 a0] (ofL []) (.bool r) (ofL []) := by
  refine Ct.of (Y := (fam Tryz.f239 [] [] [] (fun r : Bool => .bool r) (fun r => []))) Tryz.func239 rfl Tryz.call239 rfl rfl ?_ r h
  unfold strings_shouldUseASCIISet.f
  refine RS.go ?_
  exact RT.done rfl rfl (Le.refl _) trivial rfl (dom0 rfl)
/-! ### unicode_utf8_decodeRuneInStringSlow: function 192 -/
def unicode_utf8_decodeRuneInStringSlow.f (a0 : ByteArray) : Option (Int × Int) := (if (a0.size : Int) < 1 then Option.some (65533, 0) else Option.none)
theorem unicode_utf8_decodeRuneInStringSlow.ok (a0 : ByteArray) (r : Int × Int) (h : unicode_utf8_decodeRuneInStringSlow.f a0 = some r) : Ct Tryz.prog B 192 [.str a0] (ofL []) (.tup [.int .i32 r.1, .int .i64 r.2]) (ofL []) := by
  refine Ct.of (Y := (fam Tryz.f192 [] [] [] (fun r : Int × Int => .tup [.int .i32 r.1, .int .i64 r.2]) (fun r => []))) Tryz.func192 rfl Tryz.call192 rfl rfl ?_ r h
  unfold unicode_utf8_decodeRuneInStringSlow.f
  refine RS.go ?_
  refine RT.br rfl (fun c2 => ?_) (fun c2 => ?_)
  · exact RT.done rfl rfl (Le.tup (LeL.cons (Le.refl _) (LeL.cons (Le.refl _) (LeL.nil)))) trivial rfl (dom0 rfl)
  · exact RT.none
/-! ### unicode_utf8_DecodeRuneInString: function 147 -/
def unicode_utf8_DecodeRuneInString.f (a0 : ByteArray) : Option (Int × Int) := (if a0 = (⟨#[]⟩ : ByteArray) then ((unicode_utf8_decodeRuneInStringSlow.f a0).bind fun r5 => Option.some (r5.1, r5.2)) else (if 0 < (a0.size : Int) then (if bt a0 0 < 128 then (if 0 < (a0.size : Int) then Option.some (IntKind.i32.wrap (bt a0 0), 1) else Option.none) else ((unicode_utf8_decodeRuneInStringSlow.f a0).bind fun r3 => Option.some (r3.1, r3.2))) else Option.none))
theorem unicode_utf8_DecodeRuneInString.ok (a0 : ByteArray) (r : Int × Int) (h : unicode_utf8_DecodeRuneInString.f a0 = some r) : Ct Tryz.prog B 147 [.str a0] (ofL []) (.tup [.int .i32 r.1, .int .i64 r.2]) (ofL []) := by
  refine Ct.of (Y := (fam Tryz.f147 [] [] [] (fun r : Int × Int => .tup [.int .i32 r.1, .int .i64 r.2]) (fun r => []))) Tryz.func147 rfl Tryz.call147 rfl rfl ?_ r h
  unfold unicode_utf8_DecodeRuneInString.f
  refine RS.go ?_
  refine RT.brN rfl (fun c6 => ?_) (fun c6 => ?_)
  · refine RT.brF rfl ?_
    refine RT.brF rfl ?_
    refine RT.brF rfl ?_
    refine RT.brF rfl ?_
    refine RT.call0 rfl (fun _ h => unicode_utf8_decodeRuneInStringSlow.ok a0 _ h) (LeL.eq rfl) (fun _ => rfl) (fun r5 => ?_)
    refine RS.go ?_
    exact RT.done rfl rfl (Le.tup (LeL.cons (Le.refl _) (LeL.cons (Le.refl _) (LeL.nil)))) trivial rfl (dom0 rfl)
  · refine RT.brT rfl ?_
    refine RT.brT rfl ?_
    refine RT.br rfl (fun c1 => ?_) (fun c1 => RT.none)
    refine RT.brT rfl ?_
    refine RT.brT rfl ?_
    refine RT.br rfl (fun c4 => ?_) (fun c4 => ?_)
    · refine RT.brT rfl ?_
      refine RT.br rfl (fun c2 => ?_) (fun c2 => RT.none)
      exact RT.done rfl rfl (Le.tup (LeL.cons (Le.refl _) (LeL.cons (Le.refl _) (LeL.nil)))) trivial rfl (dom0 rfl)
    · refine RT.call0 rfl (fun _ h => unicode_utf8_decodeRuneInStringSlow.ok a0 _ h) (LeL.eq rfl) (fun _ => rfl) (fun r3 => ?_)
      refine RS.go ?_
      exact RT.done rfl rfl (Le.tup (LeL.cons (Le.refl _) (LeL.cons (Le.refl _) (LeL.nil)))) trivial rfl (dom0 rfl)
/-! ### unicode_utf8_DecodeLastRuneInString: function 173 -/
mutual
def unicode_utf8_DecodeLastRuneInString.j15 : Nat → ByteArray → Int → Option (Int × Int)
  | 0, _, _ => Option.none
  | k + 1, a0, x5j15 => (if 0 ≤ (a0.size : Int) then (if (a0.size : Int) ≤ (a0.size : Int) then (if 0 ≤ x5j15 then (if x5j15 ≤ (a0.size : Int) then ((unicode_utf8_DecodeRuneInString.f (a0.extract (x5j15).toNat ((a0.size : Int)).toNat)).bind fun r9 => (if wrap64 (x5j15 + r9.2) = (a0.size : Int) then Option.some (r9.1, r9.2) else Option.some (65533, 1))) else Option.none) else Option.none) else Option.none) else Option.none)
def unicode_utf8_DecodeLastRuneInString.l0 : Nat → ByteArray → Option (Int × Int)
  | 0, _ => Option.none
  | k + 1, a0 => (if wrap64 ((wrap64 ((a0.size : Int) - 1)) - 1) ≥ mx (wrap64 ((a0.size : Int) - 4)) 0 then Option.none else (if wrap64 ((wrap64 ((a0.size : Int) - 1)) - 1) < 0 then unicode_utf8_DecodeLastRuneInString.j15 k a0 0 else unicode_utf8_DecodeLastRuneInString.j15 k a0 (wrap64 ((wrap64 ((a0.size : Int) - 1)) - 1))))
end
def unicode_utf8_DecodeLastRuneInString.f (k : Nat) (a0 : ByteArray) : Option (Int × Int) := (if (a0.size : Int) = 0 then Option.some (65533, 0) else (if 0 ≤ wrap64 ((a0.size : Int) - 1) then (if wrap64 ((a0.size : Int) - 1) < (a0.size : Int) then (if IntKind.i32.wrap (bt a0 (wrap64 ((a0.size : Int) - 1))) < 128 then Option.some (IntKind.i32.wrap (bt a0 (wrap64 ((a0.size : Int) - 1))), 1) else unicode_utf8_DecodeLastRuneInString.l0 k a0) else Option.none) else Option.none))
theorem unicode_utf8_DecodeLastRuneInString.loops : ∀ k, (∀ (a0 : ByteArray) (x5j15 : Int), RS (fam Tryz.f173 [15] [] [] (fun r : Int × Int => .tup [.int .i32 r.1, .int .i64 r.2]) (fun r => [])) (Func.reg Tryz.f173 15) ⟨ofT [(0, .str a0), (4, .int .i64 (a0.size : Int)), (5, .int .i64 x5j15)], ofL []⟩ (unicode_utf8_DecodeLastRuneInString.j15 k a0 x5j15)) ∧ (∀ (a0 : ByteArray), RS (fam Tryz.f173 [15] [] [] (fun r : Int × Int => .tup [.int .i32 r.1, .int .i64 r.2]) (fun r => [])) (Func.head Tryz.f173 0) ⟨ofT [(0, .str a0), (4, .int .i64 (a0.size : Int)), (5, .int .i64 (wrap64 ((wrap64 ((a0.size : Int) - 1)) - 1))), (6, .int .i64 (mx (wrap64 ((a0.size : Int) - 4)) 0))], ofL []⟩ (unicode_utf8_DecodeLastRuneInString.l0 k a0))
  | 0 => ⟨by intro _ _; simp only [unicode_utf8_DecodeLastRuneInString.j15]; exact RS.none, by intro _; simp only [unicode_utf8_DecodeLastRuneInString.l0]; exact RS.none⟩
  | k + 1 => by
    have ih := unicode_utf8_DecodeLastRuneInString.loops k
    refine ⟨?_, ?_⟩
    · intro a0 x5j15
      simp only [unicode_utf8_DecodeLastRuneInString.j15]
      refine RS.region ?_
      refine RS.go ?_
      refine RT.br rfl (fun c5 => ?_) (fun c5 => RT.none)
      refine RT.br rfl (fun c6 => ?_) (fun c6 => RT.none)
      refine RT.br rfl (fun c7 => ?_) (fun c7 => RT.none)
      refine RT.br rfl (fun c8 => ?_) (fun c8 => RT.none)
      refine RT.call0 rfl (fun _ h => unicode_utf8_DecodeRuneInString.ok (a0.extract (x5j15).toNat ((a0.size : Int)).toNat) _ h) (LeL.eq rfl) (fun _ => rfl) (fun r9 => ?_)
      refine RS.go ?_
      refine RT.brN rfl (fun c10 => ?_) (fun c10 => ?_)
      · exact RT.done rfl rfl (Le.tup (LeL.cons (Le.refl _) (LeL.cons (Le.refl _) (LeL.nil)))) trivial rfl (dom0 rfl)
      · exact RT.done rfl rfl (Le.tup (LeL.cons (Le.refl _) (LeL.cons (Le.refl _) (LeL.nil)))) trivial rfl (dom0 rfl)
    · intro a0
      simp only [unicode_utf8_DecodeLastRuneInString.l0]
      refine RS.go ?_
      refine RT.br rfl (fun c12 => ?_) (fun c12 => ?_)
      · exact RT.none
      · refine RT.br rfl (fun c11 => ?_) (fun c11 => ?_)
        · refine RT.goto rfl ?_
          refine RS.weak [(0, .str a0), (4, .int .i64 (a0.size : Int)), (5, .int .i64 0)] [] ⟨Le.eq (by first | rfl | simp), Le.eq (by first | rfl | simp), Le.eq (by first | rfl | simp), trivial⟩ trivial rfl (dom0 rfl) ?_
          exact ih.1 a0 0 
        · refine RT.goto rfl ?_
          refine RS.weak [(0, .str a0), (4, .int .i64 (a0.size : Int)), (5, .int .i64 (wrap64 ((wrap64 ((a0.size : Int) - 1)) - 1)))] [] ⟨Le.eq (by first | rfl | simp), Le.eq (by first | rfl | simp), Le.eq (by first | rfl | simp), trivial⟩ trivial rfl (dom0 rfl) ?_
          exact ih.1 a0 (wrap64 ((wrap64 ((a0.size : Int) - 1)) - 1)) 
theorem unicode_utf8_DecodeLastRuneInString.ok (k : Nat) (a0 : ByteArray) (r : Int × Int) (h : unicode_utf8_DecodeLastRuneInString.f k a0 = some r) : Ct Tryz.prog B 173 [.str a0] (ofL []) (.tup [.int .i32 r.1, .int .i64 r.2]) (ofL []) := by
  refine Ct.of (Y := (fam Tryz.f173 [15] [] [] (fun r : Int × Int => .tup [.int .i32 r.1, .int .i64 r.2]) (fun r => []))) Tryz.func173 rfl Tryz.call173 rfl rfl ?_ r h
  unfold unicode_utf8_DecodeLastRuneInString.f
  refine RS.go ?_
  refine RT.br rfl (fun c14 => ?_) (fun c14 => ?_)
  · exact RT.done rfl rfl (Le.tup (LeL.cons (Le.refl _) (LeL.cons (Le.refl _) (LeL.nil)))) trivial rfl (dom0 rfl)
  · refine RT.br rfl (fun c1 => ?_) (fun c1 => RT.none)
    refine RT.br rfl (fun c2 => ?_) (fun c2 => RT.none)
    refine RT.br rfl (fun c13 => ?_) (fun c13 => ?_)
    · exact RT.done rfl rfl (Le.tup (LeL.cons (Le.refl _) (LeL.cons (Le.refl _) (LeL.nil)))) trivial rfl (dom0 rfl)
    · refine RT.goto rfl ?_
      refine RS.weak [(0, .str a0), (4, .int .i64 (a0.size : Int)), (5, .int .i64 (wrap64 ((wrap64 ((a0.size : Int) - 1)) - 1))), (6, .int .i64 (mx (wrap64 ((a0.size : Int) - 4)) 0))] [] ⟨Le.eq (by first | rfl | simp), Le.eq (by first | rfl | simp), Le.eq (by first | rfl | simp), Le.eq (by first | rfl | simp), trivial⟩ trivial rfl (dom0 rfl) ?_
      exact (unicode_utf8_DecodeLastRuneInString.loops k).2 a0 
/-! ### strings_LastIndexAny_s: function 209 -/
mutual
def strings_LastIndexAny_s.j7 : Nat → ByteArray → Int → Option (Int)
  | 0, _, _ => Option.none
  | k + 1, a1, x5j7 => ((strings_IndexRune.f a1 x5j7).bind fun r2 => (if r2 ≥ 0 then Option.some 0 else Option.some (-1)))
def strings_LastIndexAny_s.l1 : Nat → ByteArray → Int → Int → Option (Int)
  | 0, _, _, _ => Option.none
  | k + 1, a0, x9j23, x10b => (if x10b > 0 then (if 0 ≤ x10b then (if x10b ≤ (a0.size : Int) then ((unicode_utf8_DecodeLastRuneInString.f k (a0.extract 0 (x10b).toNat)).bind fun r9 => (if x9j23 = r9.1 then Option.some (wrap64 (x10b - r9.2)) else strings_LastIndexAny_s.l1 k a0 x9j23 (wrap64 (x10b - r9.2)))) else Option.none) else Option.none) else Option.some (-1))
def strings_LastIndexAny_s.j23 : Nat → ByteArray → Int → Option (Int)
  | 0, _, _ => Option.none
  | k + 1, a0, x9j23 => strings_LastIndexAny_s.l1 k a0 x9j23 (a0.size : Int)
def strings_LastIndexAny_s.l2 : Nat → ByteArray → ByteArray → Int → Option (Int)
  | 0, _, _, _ => Option.none
  | k + 1, a0, a1, x13c => (if x13c > 0 then (if 0 ≤ x13c then (if x13c ≤ (a0.size : Int) then ((unicode_utf8_DecodeLastRuneInString.f k (a0.extract 0 (x13c).toNat)).bind fun r15 => ((strings_IndexRune.f a1 r15.1).bind fun r16 => (if r16 ≥ 0 then Option.some (wrap64 (x13c - r15.2)) else strings_LastIndexAny_s.l2 k a0 a1 (wrap64 (x13c - r15.2))))) else Option.none) else Option.none) else Option.some (-1))
def strings_LastIndexAny_s.j19 : Nat → ByteArray → ByteArray → Option (Int)
  | 0, _, _ => Option.none
  | k + 1, a0, a1 => (if (a1.size : Int) = 1 then (if 0 < (a1.size : Int) then (if IntKind.i32.wrap (bt a1 0) ≥ 128 then strings_LastIndexAny_s.j23 k a0 65533 else strings_LastIndexAny_s.j23 k a0 (IntKind.i32.wrap (bt a1 0))) else Option.none) else strings_LastIndexAny_s.l2 k a0 a1 (a0.size : Int))
end
def strings_LastIndexAny_s.f (k : Nat) (a0 : ByteArray) (a1 : ByteArray) : Option (Int) := (if a1 = (⟨#[]⟩ : ByteArray) then Option.some (-1) else (if (a0.size : Int) = 1 then (if 0 < (a0.size : Int) then (if IntKind.i32.wrap (bt a0 0) ≥ 128 then strings_LastIndexAny_s.j7 k a1 65533 else strings_LastIndexAny_s.j7 k a1 (IntKind.i32.wrap (bt a0 0))) else Option.none) else ((strings_shouldUseASCIISet.f (a0.size : Int)).bind fun r5 => (if r5 = true then Option.none else strings_LastIndexAny_s.j19 k a0 a1))))
theorem strings_LastIndexAny_s.loops : ∀ k, (∀ (a1 : ByteArray) (x5j7 : Int), RS (fam Tryz.f209 [7, 19, 23] [] [] (fun r : Int => .int .i64 r) (fun r => [])) (Func.reg Tryz.f209 7) ⟨ofT [(1, .str a1), (5, .int .i32 x5j7)], ofL []⟩ (strings_LastIndexAny_s.j7 k a1 x5j7)) ∧ (∀ (a0 : ByteArray) (x9j23 : Int) (x10b : Int), RS (fam Tryz.f209 [7, 19, 23] [] [] (fun r : Int => .int .i64 r) (fun r => [])) (Func.head Tryz.f209 1) ⟨ofT [(0, .str a0), (9, .int .i32 x9j23), (10, .int .i64 x10b)], ofL []⟩ (strings_LastIndexAny_s.l1 k a0 x9j23 x10b)) ∧ (∀ (a0 : ByteArray) (x9j23 : Int), RS (fam Tryz.f209 [7, 19, 23] [] [] (fun r : Int => .int .i64 r) (fun r => [])) (Func.reg Tryz.f209 23) ⟨ofT [(0, .str a0), (9, .int .i32 x9j23)], ofL []⟩ (strings_LastIndexAny_s.j23 k a0 x9j23)) ∧ (∀ (a0 : ByteArray) (a1 : ByteArray) (x13c : Int), RS (fam Tryz.f209 [7, 19, 23] [] [] (fun r : Int => .int .i64 r) (fun r => [])) (Func.head Tryz.f209 2) ⟨ofT [(0, .str a0), (1, .str a1), (13, .int .i64 x13c)], ofL []⟩ (strings_LastIndexAny_s.l2 k a0 a1 x13c)) ∧ (∀ (a0 : ByteArray) (a1 : ByteArray), RS (fam Tryz.f209 [7, 19, 23] [] [] (fun r : Int => .int .i64 r) (fun r => [])) (Func.reg Tryz.f209 19) ⟨ofT [(0, .str a0), (1, .str a1)], ofL []⟩ (strings_LastIndexAny_s.j19 k a0 a1))
  | 0 => ⟨by intro _ _; simp only [strings_LastIndexAny_s.j7]; exact RS.none, by intro _ _ _; simp only [strings_LastIndexAny_s.l1]; exact RS.none, by intro _ _; simp only [strings_LastIndexAny_s.j23]; exact RS.none, by intro _ _ _; simp only [strings_LastIndexAny_s.l2]; exact RS.none, by intro _ _; simp only [strings_LastIndexAny_s.j19]; exact RS.none⟩
  | k + 1 => by
    have ih := strings_LastIndexAny_s.loops k
    refine ⟨?_, ?_, ?_, ?_, ?_⟩
    · intro a1 x5j7
      simp only [strings_LastIndexAny_s.j7]
      refine RS.region ?_
      refine RS.go ?_
      refine RT.call0 rfl (fun _ h => strings_IndexRune.ok a1 x5j7 _ h) (LeL.eq rfl) (fun _ => rfl) (fun r2 => ?_)
      refine RS.go ?_
      refine RT.br rfl (fun c3 => ?_) (fun c3 => ?_)
      · exact RT.done rfl rfl (Le.refl _) trivial rfl (dom0 rfl)
      · exact RT.done rfl rfl (Le.refl _) trivial rfl (dom0 rfl)
    · intro a0 x9j23 x10b
      simp only [strings_LastIndexAny_s.l1]
      refine RS.go ?_
      refine RT.br rfl (fun c11 => ?_) (fun c11 => ?_)
      · refine RT.br rfl (fun c7 => ?_) (fun c7 => RT.none)
        refine RT.br rfl (fun c8 => ?_) (fun c8 => RT.none)
        refine RT.call0 rfl (fun _ h => unicode_utf8_DecodeLastRuneInString.ok k (a0.extract 0 (x10b).toNat) _ h) (LeL.eq rfl) (fun _ => rfl) (fun r9 => ?_)
        refine RS.go ?_
        refine RT.br rfl (fun c10 => ?_) (fun c10 => ?_)
        · exact RT.done rfl rfl (Le.refl _) trivial rfl (dom0 rfl)
        · refine RT.goto rfl ?_
          refine RS.weak [(0, .str a0), (9, .int .i32 x9j23), (10, .int .i64 (wrap64 (x10b - r9.2)))] [] ⟨Le.eq (by first | rfl | simp), Le.eq (by first | rfl | simp), Le.eq (by first | rfl | simp), trivial⟩ trivial rfl (dom0 rfl) ?_
          exact ih.2.1 a0 x9j23 (wrap64 (x10b - r9.2)) 
      · exact RT.done rfl rfl (Le.refl _) trivial rfl (dom0 rfl)
    · intro a0 x9j23
      simp only [strings_LastIndexAny_s.j23]
      refine RS.region ?_
      refine RS.go ?_
      refine RT.goto rfl ?_
      refine RS.weak [(0, .str a0), (9, .int .i32 x9j23), (10, .int .i64 (a0.size : Int))] [] ⟨Le.eq (by first | rfl | simp), Le.eq (by first | rfl | simp), Le.eq (by first | rfl | simp), trivial⟩ trivial rfl (dom0 rfl) ?_
      exact ih.2.1 a0 x9j23 (a0.size : Int) 
    · intro a0 a1 x13c
      simp only [strings_LastIndexAny_s.l2]
      refine RS.go ?_
      refine RT.br rfl (fun c18 => ?_) (fun c18 => ?_)
      · refine RT.br rfl (fun c13 => ?_) (fun c13 => RT.none)
        refine RT.br rfl (fun c14 => ?_) (fun c14 => RT.none)
        refine RT.call0 rfl (fun _ h => unicode_utf8_DecodeLastRuneInString.ok k (a0.extract 0 (x13c).toNat) _ h) (LeL.eq rfl) (fun _ => rfl) (fun r15 => ?_)
        refine RS.go ?_
        refine RT.call0 rfl (fun _ h => strings_IndexRune.ok a1 r15.1 _ h) (LeL.eq rfl) (fun _ => rfl) (fun r16 => ?_)
        refine RS.go ?_
        refine RT.br rfl (fun c17 => ?_) (fun c17 => ?_)
        · exact RT.done rfl rfl (Le.refl _) trivial rfl (dom0 rfl)
        · refine RT.goto rfl ?_
          refine RS.weak [(0, .str a0), (1, .str a1), (13, .int .i64 (wrap64 (x13c - r15.2)))] [] ⟨Le.eq (by first | rfl | simp), Le.eq (by first | rfl | simp), Le.eq (by first | rfl | simp), trivial⟩ trivial rfl (dom0 rfl) ?_
          exact ih.2.2.2.1 a0 a1 (wrap64 (x13c - r15.2)) 
      · exact RT.done rfl rfl (Le.refl _) trivial rfl (dom0 rfl)
    · intro a0 a1
      simp only [strings_LastIndexAny_s.j19]
      refine RS.region ?_
      refine RS.go ?_
      refine RT.br rfl (fun c19 => ?_) (fun c19 => ?_)
      · refine RT.brT rfl ?_
        refine RT.br rfl (fun c6 => ?_) (fun c6 => RT.none)
        refine RT.br rfl (fun c12 => ?_) (fun c12 => ?_)
        · refine RT.goto rfl ?_
          refine RS.weak [(0, .str a0), (9, .int .i32 65533)] [] ⟨Le.eq (by first | rfl | simp), Le.eq (by first | rfl | simp), trivial⟩ trivial rfl (dom0 rfl) ?_
          exact ih.2.2.1 a0 65533 
        · refine RT.goto rfl ?_
          refine RS.weak [(0, .str a0), (9, .int .i32 (IntKind.i32.wrap (bt a1 0)))] [] ⟨Le.eq (by first | rfl | simp), Le.eq (by first | rfl | simp), trivial⟩ trivial rfl (dom0 rfl) ?_
          exact ih.2.2.1 a0 (IntKind.i32.wrap (bt a1 0)) 
      · refine RT.goto rfl ?_
        refine RS.weak [(0, .str a0), (1, .str a1), (13, .int .i64 (a0.size : Int))] [] ⟨Le.eq (by first | rfl | simp), Le.eq (by first | rfl | simp), Le.eq (by first | rfl | simp), trivial⟩ trivial rfl (dom0 rfl) ?_
        exact ih.2.2.2.1 a0 a1 (a0.size : Int) 
theorem strings_LastIndexAny_s.ok (k : Nat) (a0 : ByteArray) (a1 : ByteArray) (r : Int) (h : strings_LastIndexAny_s.f k a0 a1 = some r) : Ct Tryz.prog B 209 [.str a0, .str a1] (ofL []) (.int .i64 r) (ofL []) := by
  refine Ct.of (Y := (fam Tryz.f209 [7, 19, 23] [] [] (fun r : Int => .int .i64 r) (fun r => []))) Tryz.func209 rfl Tryz.call209 rfl rfl ?_ r h
  unfold strings_LastIndexAny_s.f
  refine RS.go ?_
  refine RT.br rfl (fun c22 => ?_) (fun c22 => ?_)
  · exact RT.done rfl rfl (Le.refl _) trivial rfl (dom0 rfl)
  · refine RT.br rfl (fun c21 => ?_) (fun c21 => ?_)
    · refine RT.brT rfl ?_
      refine RT.br rfl (fun c1 => ?_) (fun c1 => RT.none)
      refine RT.br rfl (fun c4 => ?_) (fun c4 => ?_)
      · refine RT.goto rfl ?_
        refine RS.weak [(1, .str a1), (5, .int .i32 65533)] [] ⟨Le.eq (by first | rfl | simp), Le.eq (by first | rfl | simp), trivial⟩ trivial rfl (dom0 rfl) ?_
        exact (strings_LastIndexAny_s.loops k).1 a1 65533 
      · refine RT.goto rfl ?_
        refine RS.weak [(1, .str a1), (5, .int .i32 (IntKind.i32.wrap (bt a0 0)))] [] ⟨Le.eq (by first | rfl | simp), Le.eq (by first | rfl | simp), trivial⟩ trivial rfl (dom0 rfl) ?_
        exact (strings_LastIndexAny_s.loops k).1 a1 (IntKind.i32.wrap (bt a0 0)) 
    · refine RT.call0 rfl (fun _ h => strings_shouldUseASCIISet.ok (a0.size : Int) _ h) (LeL.eq rfl) (fun _ => rfl) (fun r5 => ?_)
      refine RS.go ?_
      refine RT.brB rfl (fun c20 => ?_) (fun c20 => ?_)
      · exact RT.none
      · refine RT.goto rfl ?_
        refine RS.weak [(0, .str a0), (1, .str a1)] [] ⟨Le.eq (by first | rfl | simp), Le.eq (by first | rfl | simp), trivial⟩ trivial rfl (dom0 rfl) ?_
        exact (strings_LastIndexAny_s.loops k).2.2.2.2 a0 a1 
def sMake.f (a0 : ByteArray) : Option ByteArray := if a0.size < 4294967281 ∧ asciiT a0 = true then some a0 else none
theorem sMake.ok (a0 r : ByteArray) (h : sMake.f a0 = some r) : Ct Tryz.prog B 135 [.str a0] (ofL []) (.tup [.agg (setA r), .bool true]) (ofL []) := by
  unfold sMake.f at h
  split at h
  case isFalse => cases h
  case isTrue c =>
  cases h
  refine Ct.libR (u := .tuple #[.agg (Lib.setCells a0.data.toList), .bool true]) Tryz.call135 rfl (fun g sz w => ?_) fun g w hb => (Tryz.strings_makeASCIISet (zero_of_info (n := 256) (by kernel_rfl)).1 a0 w c.1 (asciiT_at c.2)).mono fun e w' ⟨he, hw⟩ => ⟨he, ?_⟩
  · refine .tup _ _ rfl fun i hi => ?_
    rcases (by simp at hi; omega : i = 0 ∨ i = 1) with rfl | rfl
    · refine .agg _ _ ?_ fun j hj => ?_
      · rw [Lib.setCells_size, setA_len]
      · rw [setA_len] at hj
        rw [Lib.setCells_eq]
        simp only [setA, List.getD, List.getElem?_map, List.getElem?_range hj, Option.map_some, Option.getD_some]
        have : (Array.map (fun j => Value.bool (a0.data.toList.contains (UInt8.ofNat j))) (Array.range 256)).getD j undef = .bool (a0.data.toList.contains (UInt8.ofNat j)) := by simp [Array.getD, hj]
        rw [this]
        exact R.bool _
    · exact R.bool _
  · rw [hw]
    exact (Below.refl _ _).alloc (Nat.le_refl _) _

/-- the set lent: is a byte in it? -/
def sHas.f (a0 : ByteArray) (a1 : Int) : Option Bool := if 0 ≤ a1 ∧ a1 < 256 then some (a0.data.toList.contains (UInt8.ofNat a1.toNat)) else none
theorem sHas.ok (a0 : ByteArray) (a1 : Int) (r : Bool) (h : sHas.f a0 a1 = some r) : Ct Tryz.prog B 172 [.ref 0 0 0 0 256, .int .u8 a1] (ofL [(0, .box (setA a0))]) (.bool r) (ofL [(0, .box (setA a0))]) := by
  unfold sHas.f at h
  split at h
  case isFalse => cases h
  case isTrue c =>
  cases h
  intro g w vs hs hr hO hB
  unfold Ent
  rw [show ∀ (vs : Array Value) (w : World), (callFunc 172 vs).run Tryz.prog w = .ok (.enter 172 vs) w from Tryz.call172]
  have h0 := hr 0 (by simp)
  have h1 := hr 1 (by simp)
  have hob := hO.ob 0 _ (show ofL [(0, .box (setA a0))] 0 = some (.box (setA a0)) from rfl)
  obtain ⟨b, κ, hβ, hcell⟩ := box_cell hob
  have hsz : szf (ofL [(0, .box (setA a0))]) 0 = 256 := setA_len a0
  obtain ⟨b', κ', hβ', hv⟩ := ref_inv h0 hsz.symm
  rw [hβ] at hβ'
  cases hβ'
  have hv1 := R.int_inv h1
  have e : vs = #[.pointer (some ⟨b, 0, none⟩), .int .u8 ((UInt8.ofNat a1.toNat).toNat : Int)] := by
    have ha : ((UInt8.ofNat a1.toNat).toNat : Int) = a1 := by rw [UInt8.toNat_ofNat']; omega
    rw [ha]
    apply Array.ext
    · simpa using hs
    · intro i hi hi2
      have hi3 : i < 2 := by simpa using hi2
      rcases (by omega : i = 0 ∨ i = 1) with rfl | rfl
      · have : vs.getD 0 undef = vs[0] := by simp [Array.getD, hi]
        rw [this] at hv
        simpa using hv
      · have : vs.getD 1 undef = vs[1] := by simp [Array.getD, hi]
        rw [this] at hv1
        simpa using hv1
  rw [e]
  refine (Tryz.asciiSet_contains b (UInt8.ofNat a1.toNat) _ w (hcell _)).mono fun e w' ⟨he, hw⟩ => ?_
  subst hw
  exact ⟨_, he, g, R.bool _, hO, Fr.refl _ _, Kp.refl _ _⟩
def sLast.l9 : Nat → ByteArray → ByteArray → Int → Option Int
  | 0, _, _, _ => Option.none
  | k + 1, a0, a1, x8 => (if x8 ≥ 0 then (if 0 ≤ x8 then (if x8 < (a0.size : Int) then ((sHas.f a1 (bt a0 x8)).bind fun r9 => (if r9 = true then Option.some x8 else sLast.l9 k a0 a1 (wrap64 (x8 - 1)))) else Option.none) else Option.none) else Option.some (-1))
theorem sLast.loops : ∀ k, (∀ (a0 : ByteArray) (a1 : ByteArray) (x8 : Int), RS (fam Tryz.f209 [1000007] [] [] (fun r : Int => .int .i64 r) (fun r => [])) (Func.head Tryz.f209 0) ⟨ofT [(0, .str a0), (6, .ref 6 0 0 0 256), (8, .int .i64 x8)], ofL [(6, .box (setA a1))]⟩ (sLast.l9 k a0 a1 x8))
  | 0 => by intro _ _ _; simp only [sLast.l9]; exact RS.none
  | k + 1 => by
    have ih := sLast.loops k
    intro a0 a1 x8
    simp only [sLast.l9]
    refine RS.go ?_
    refine RT.br rfl (fun c1 => ?_) (fun c1 => ?_)
    · refine RT.br rfl (fun c2 => ?_) (fun c2 => RT.none)
      refine RT.br rfl (fun c3 => ?_) (fun c3 => RT.none)
      refine RT.call rfl (fun _ h => sHas.ok a1 (bt a0 x8) _ h) (fun i => bif Nat.beq i 0 then 6 else i) (LeL.eq rfl) ⟨⟨_, rfl, LeO.refl _⟩, trivial⟩ (fun _ => rfl) (fun r9 => ?_)
      refine RS.go ?_
      refine RT.brB rfl (fun c4 => ?_) (fun c4 => ?_)
      · exact RT.done rfl rfl (Le.refl _) trivial rfl (dom0 rfl)
      · refine RT.goto rfl ?_
        refine RS.weak [(0, .str a0), (6, .ref 6 0 0 0 256), (8, .int .i64 (wrap64 (x8 - 1)))] [(6, .box (setA a1))] ⟨Le.eq (by first | rfl | simp), Le.eq (by first | rfl | simp), Le.eq (by first | rfl | simp), trivial⟩ ⟨⟨_, rfl, LeO.refl _⟩, trivial⟩ rfl (dom0 rfl) ?_
        exact ih a0 a1 (wrap64 (x8 - 1))
    · exact RT.done rfl rfl (Le.refl _) trivial rfl (dom0 rfl)
def sLast.f (k : Nat) (a0 : ByteArray) (a1 : ByteArray) : Option Int := (if a1 = (⟨#[]⟩ : ByteArray) then Option.none else (if (a0.size : Int) = 1 then Option.none else ((strings_shouldUseASCIISet.f (a0.size : Int)).bind fun r5 => (if r5 = true then ((sMake.f a1).bind fun r6 => sLast.l9 k a0 r6 (wrap64 ((a0.size : Int) - 1))) else Option.none))))
theorem sLast.ok (k : Nat) (a0 : ByteArray) (a1 : ByteArray) (r : Int) (h : sLast.f k a0 a1 = some r) : Ct Tryz.prog B 209 [.str a0, .str a1] (ofL []) (.int .i64 r) (ofL []) := by
  refine Ct.of (Y := (fam Tryz.f209 [1000007] [] [] (fun r : Int => .int .i64 r) (fun r => []))) Tryz.func209 rfl Tryz.call209 rfl rfl ?_ r h
  unfold sLast.f
  refine RS.go ?_
  refine RT.br rfl (fun c22 => ?_) (fun c22 => ?_)
  · exact RT.none
  · refine RT.br rfl (fun c21 => ?_) (fun c21 => ?_)
    · exact RT.none
    · refine RT.call0 rfl (fun _ h => strings_shouldUseASCIISet.ok (a0.size : Int) _ h) (LeL.eq rfl) (fun _ => rfl) (fun r5 => ?_)
      refine RS.go ?_
      refine RT.brB rfl (fun c20 => ?_) (fun c20 => ?_)
      · refine RT.call0 rfl (fun _ h => sMake.ok a1 _ h) (LeL.eq rfl) (fun _ => rfl) (fun r6 => ?_)
        refine RS.go ?_
        refine RT.goto rfl ?_
        refine RS.obj 6 (.box (setA r6)) ⟨_, rfl, LeO.putA rfl rfl⟩ ?_
        refine RS.go ?_
        refine RT.brT rfl ?_
        refine RT.goto rfl ?_
        refine RS.weak [(0, .str a0), (6, .ref 6 0 0 0 256), (8, .int .i64 (wrap64 ((a0.size : Int) - 1)))] [(6, .box (setA r6))] ⟨Le.eq (by first | rfl | simp), Le.eq (by first | rfl | simp), Le.eq (by first | rfl | simp), trivial⟩ ⟨⟨_, rfl, LeO.refl _⟩, trivial⟩ rfl (dom0 rfl) ?_
        exact sLast.loops k a0 r6 (wrap64 ((a0.size : Int) - 1))
      · exact RT.none
def strings_LastIndexAny.f (k : Nat) (a0 : ByteArray) (a1 : ByteArray) : Option Int := if 8 < a0.size then sLast.f k a0 a1 else strings_LastIndexAny_s.f k a0 a1
theorem strings_LastIndexAny.ok (k : Nat) (a0 : ByteArray) (a1 : ByteArray) (r : Int) (h : strings_LastIndexAny.f k a0 a1 = some r) : Ct Tryz.prog B 209 [.str a0, .str a1] (ofL []) (.int .i64 r) (ofL []) := by
  unfold strings_LastIndexAny.f at h
  split at h
  · exact sLast.ok k a0 a1 r h
  · exact strings_LastIndexAny_s.ok k a0 a1 r h

/-! ### call_split: function 165 -/
def call_split.f (k : Nat) (a0 : ByteArray) : Option (Int × Bool) := ((call_isPlain.f k a0).bind fun r1 => (if r1.2 = true then (if (a0.size : Int) > 10 then Option.some (0, false) else ((strings_LastIndexAny.f k a0 (⟨#[48, 49, 50, 51, 52, 53, 54, 55, 56, 57]⟩ : ByteArray)).bind fun r2 => (if r2 < 1 then Option.some (0, false) else (if r2 > 3 then Option.some (0, false) else (if wrap64 ((wrap64 ((a0.size : Int) - r2)) - 1) < 1 then Option.some (0, false) else (if wrap64 ((wrap64 ((a0.size : Int) - r2)) - 1) > 4 then Option.some (0, false) else (if 0 ≤ r2 then (if r2 ≤ (a0.size : Int) then ((call_isPlain.f k (a0.extract 0 (r2).toNat)).bind fun r5 => Option.some (r2, (decide (r5.1 > 0)))) else Option.none) else Option.none))))))) else Option.some (0, false)))
theorem call_split.ok (k : Nat) (a0 : ByteArray) (r : Int × Bool) (h : call_split.f k a0 = some r) : Ct Tryz.prog B 165 [.str a0] (ofL []) (.tup [.int .i64 r.1, .bool r.2]) (ofL []) := by
  refine Ct.of (Y := (fam Tryz.f165 [] [] [] (fun r : Int × Bool => .tup [.int .i64 r.1, .bool r.2]) (fun r => []))) Tryz.func165 rfl Tryz.call165 rfl rfl ?_ r h
  unfold call_split.f
  refine RS.go ?_
  refine RT.call0 rfl (fun _ h => call_isPlain.ok k a0 _ h) (LeL.eq rfl) (fun _ => rfl) (fun r1 => ?_)
  refine RS.go ?_
  refine RT.brBN rfl (fun c11 => ?_) (fun c11 => ?_)
  · refine RT.brF rfl ?_
    refine RT.brF rfl ?_
    refine RT.brF rfl ?_
    refine RT.br rfl (fun c10 => ?_) (fun c10 => ?_)
    · exact RT.done rfl rfl (Le.tup (LeL.cons (Le.refl _) (LeL.cons (Le.refl _) (LeL.nil)))) trivial rfl (dom0 rfl)
    · refine RT.call0 rfl (fun _ h => strings_LastIndexAny.ok k a0 (⟨#[48, 49, 50, 51, 52, 53, 54, 55, 56, 57]⟩ : ByteArray) _ h) (LeL.eq rfl) (fun _ => rfl) (fun r2 => ?_)
      refine RS.go ?_
      refine RT.br rfl (fun c9 => ?_) (fun c9 => ?_)
      · refine RT.brT rfl ?_
        refine RT.brT rfl ?_
        refine RT.brT rfl ?_
        refine RT.brT rfl ?_
        refine RT.brT rfl ?_
        refine RT.brT rfl ?_
        refine RT.brT rfl ?_
        refine RT.brT rfl ?_
        refine RT.brT rfl ?_
        refine RT.brT rfl ?_
        refine RT.brT rfl ?_
        refine RT.brT rfl ?_
        refine RT.brT rfl ?_
        refine RT.brT rfl ?_
        refine RT.brT rfl ?_
        refine RT.brT rfl ?_
        refine RT.brT rfl ?_
        exact RT.done rfl rfl (Le.tup (LeL.cons (Le.refl _) (LeL.cons (Le.refl _) (LeL.nil)))) trivial rfl (dom0 rfl)
      · refine RT.brF rfl ?_
        refine RT.brF rfl ?_
        refine RT.br rfl (fun c8 => ?_) (fun c8 => ?_)
        · refine RT.brT rfl ?_
          refine RT.brT rfl ?_
          refine RT.brT rfl ?_
          refine RT.brT rfl ?_
          refine RT.brT rfl ?_
          refine RT.brT rfl ?_
          refine RT.brT rfl ?_
          refine RT.brT rfl ?_
          refine RT.brT rfl ?_
          refine RT.brT rfl ?_
          refine RT.brT rfl ?_
          refine RT.brT rfl ?_
          refine RT.brT rfl ?_
          refine RT.brT rfl ?_
          exact RT.done rfl rfl (Le.tup (LeL.cons (Le.refl _) (LeL.cons (Le.refl _) (LeL.nil)))) trivial rfl (dom0 rfl)
        · refine RT.brF rfl ?_
          refine RT.brF rfl ?_
          refine RT.brF rfl ?_
          refine RT.brF rfl ?_
          refine RT.brF rfl ?_
          refine RT.brF rfl ?_
          refine RT.br rfl (fun c7 => ?_) (fun c7 => ?_)
          · refine RT.brT rfl ?_
            refine RT.brT rfl ?_
            refine RT.brT rfl ?_
            refine RT.brT rfl ?_
            refine RT.brT rfl ?_
            refine RT.brT rfl ?_
            refine RT.brT rfl ?_
            exact RT.done rfl rfl (Le.tup (LeL.cons (Le.refl _) (LeL.cons (Le.refl _) (LeL.nil)))) trivial rfl (dom0 rfl)
          · refine RT.brF rfl ?_
            refine RT.brF rfl ?_
            refine RT.brF rfl ?_
            refine RT.brF rfl ?_
            refine RT.brF rfl ?_
            refine RT.brF rfl ?_
            refine RT.br rfl (fun c6 => ?_) (fun c6 => ?_)
            · exact RT.done rfl rfl (Le.tup (LeL.cons (Le.refl _) (LeL.cons (Le.refl _) (LeL.nil)))) trivial rfl (dom0 rfl)
            · refine RT.br rfl (fun c3 => ?_) (fun c3 => RT.none)
              refine RT.br rfl (fun c4 => ?_) (fun c4 => RT.none)
              refine RT.call0 rfl (fun _ h => call_isPlain.ok k (a0.extract 0 (r2).toNat) _ h) (LeL.eq rfl) (fun _ => rfl) (fun r5 => ?_)
              refine RS.go ?_
              exact RT.done rfl rfl (Le.tup (LeL.cons (Le.refl _) (LeL.cons (Le.refl _) (LeL.nil)))) trivial rfl (dom0 rfl)
  · refine RT.brT rfl ?_
    refine RT.brT rfl ?_
    refine RT.brT rfl ?_
    refine RT.brT rfl ?_
    exact RT.done rfl rfl (Le.tup (LeL.cons (Le.refl _) (LeL.cons (Le.refl _) (LeL.nil)))) trivial rfl (dom0 rfl)
/-! ### call_based: function 123 -/
def call_based.k0 : List DK := [⟨[], [], [3], []⟩, ⟨[2, 23], [2], [], [2]⟩, ⟨[14, 18, 22], [], [23], []⟩, ⟨[19, 21], [], [22], []⟩, ⟨[20], [], [21], []⟩, ⟨[4], [], [20], []⟩, ⟨[0], [], [19], []⟩, ⟨[15, 17], [], [18], []⟩, ⟨[16], [], [17], []⟩, ⟨[4], [], [16], []⟩, ⟨[0], [], [15], []⟩, ⟨[0], [], [14], []⟩]
def call_based.k1 : List Nat := [0, 0, 0, 4, 14, 0, 0, 64, 224, 511, 1023, 2047]
def call_based.f (k : Nat) (a0 : ByteArray) : Option (ByteArray × ByteArray × ByteArray × Int × ByteArray × Bool) := ((call_split.f k a0).bind fun r1 => (if r1.2 = true then (if 0 ≤ wrap64 (r1.1 + 1) then (if wrap64 (r1.1 + 1) ≤ (a0.size : Int) then (if 0 ≤ wrap64 (r1.1 + 1) then (if wrap64 (r1.1 + 1) ≤ (a0.size : Int) then Option.some (a0, a0.extract 0 (wrap64 (r1.1 + 1)).toNat, a0.extract (wrap64 (r1.1 + 1)).toNat ((a0.size : Int)).toNat, 0, (⟨#[]⟩ : ByteArray), true) else Option.none) else Option.none) else Option.none) else Option.none) else Option.some ((⟨#[]⟩ : ByteArray), (⟨#[]⟩ : ByteArray), (⟨#[]⟩ : ByteArray), 0, (⟨#[]⟩ : ByteArray), false)))
theorem call_based.ok (k : Nat) (a0 : ByteArray) (r : ByteArray × ByteArray × ByteArray × Int × ByteArray × Bool) (h : call_based.f k a0 = some r) : Ct Tryz.prog B 123 [.str a0] (ofL []) (.tup [.agg [.str r.1, .str r.2.1, .str r.2.2.1, .int .i64 r.2.2.2.1, .str r.2.2.2.2.1], .bool r.2.2.2.2.2]) (ofL []) := by
  refine Ct.of (Y := (fam Tryz.f123 [] [] [] (fun r : ByteArray × ByteArray × ByteArray × Int × ByteArray × Bool => .tup [.agg [.str r.1, .str r.2.1, .str r.2.2.1, .int .i64 r.2.2.2.1, .str r.2.2.2.2.1], .bool r.2.2.2.2.2]) (fun r => []))) Tryz.func123 rfl Tryz.call123 rfl rfl ?_ r h
  unfold call_based.f
  refine RS.go ?_
  refine RT.call0 rfl (fun _ h => call_split.ok k a0 _ h) (LeL.eq rfl) (fun _ => rfl) (fun r1 => ?_)
  refine RS.go ?_
  refine RT.brBN rfl (fun c6 => ?_) (fun c6 => ?_)
  · refine RT.goto rfl ?_
    refine RS.draw rfl ?_
    refine RD.br rfl (fun c2 => ?_) (fun c2 => RD.none)
    refine RD.br rfl (fun c3 => ?_) (fun c3 => RD.none)
    refine RD.br rfl (fun c4 => ?_) (fun c4 => RD.none)
    refine RD.br rfl (fun c5 => ?_) (fun c5 => RD.none)
    refine RD.fin call_based.k0 call_based.k1 rfl rfl (by decide +kernel) ?_
    refine RS.go ?_
    exact RT.done rfl rfl (Le.tup (LeL.cons (Le.refl _) (LeL.cons (Le.refl _) (LeL.nil)))) trivial rfl (dom0 rfl)
  · exact RT.done rfl rfl (Le.tup (LeL.cons (Le.refl _) (LeL.cons (Le.refl _) (LeL.nil)))) trivial rfl (dom0 rfl)
def strings_Cut.f (a0 : ByteArray) (a1 : ByteArray) : Option (ByteArray × ByteArray × Bool) := if a0.size < 4294967281 then some ((⟨(Lib.cut a0.data.toList a1.data.toList).1.toArray⟩, ⟨(Lib.cut a0.data.toList a1.data.toList).2.1.toArray⟩, (Lib.cut a0.data.toList a1.data.toList).2.2) : ByteArray × ByteArray × Bool) else none
theorem strings_Cut.ok (a0 : ByteArray) (a1 : ByteArray) (r : ByteArray × ByteArray × Bool) (h : strings_Cut.f a0 a1 = some r) : Ct Tryz.prog B 124 [.str a0, .str a1] (ofL []) (.tup [.str r.1, .str r.2.1, .bool r.2.2]) (ofL []) := by
  unfold strings_Cut.f at h
  split at h
  case isFalse => cases h
  case isTrue c =>
  cases h
  refine Ct.lib Tryz.call124 rfl rfl fun g w hb => (((hbML hb).elim fun m hm => Tryz.strings_Cut a0 a1 m w c hm)).mono fun e w' ⟨he, hw⟩ => ⟨he, (by obtain ⟨n, rfl⟩ := hw; exact ⟨rfl, rfl, rfl, Nat.le_refl _, fun _ _ => rfl⟩)⟩

/-! ### call_isBegin: function 125 -/
def call_isBegin.f (k : Nat) (a0 : ByteArray) : Option (Bool) := ((call_isPlain.f k a0).bind fun r1 => (if r1.2 = true then (if r1.1 > 0 then Option.some (decide ((a0.size : Int) ≤ 4)) else Option.some false) else Option.some false))
theorem call_isBegin.ok (k : Nat) (a0 : ByteArray) (r : Bool) (h : call_isBegin.f k a0 = some r) : Ct Tryz.prog B 125 [.str a0] (ofL []) (.bool r) (ofL []) := by
  refine Ct.of (Y := (fam Tryz.f125 [] [] [] (fun r : Bool => .bool r) (fun r => []))) Tryz.func125 rfl Tryz.call125 rfl rfl ?_ r h
  unfold call_isBegin.f
  refine RS.go ?_
  refine RT.call0 rfl (fun _ h => call_isPlain.ok k a0 _ h) (LeL.eq rfl) (fun _ => rfl) (fun r1 => ?_)
  refine RS.go ?_
  refine RT.brB rfl (fun c3 => ?_) (fun c3 => ?_)
  · refine RT.brT rfl ?_
    refine RT.brT rfl ?_
    refine RT.br rfl (fun c2 => ?_) (fun c2 => ?_)
    · refine RT.brT rfl ?_
      refine RT.brT rfl ?_
      refine RT.brT rfl ?_
      exact RT.done rfl rfl (Le.refl _) trivial rfl (dom0 rfl)
    · refine RT.brF rfl ?_
      refine RT.brF rfl ?_
      refine RT.brF rfl ?_
      exact RT.done rfl rfl (Le.refl _) trivial rfl (dom0 rfl)
  · refine RT.brF rfl ?_
    refine RT.brF rfl ?_
    refine RT.brF rfl ?_
    refine RT.brF rfl ?_
    refine RT.brF rfl ?_
    refine RT.brF rfl ?_
    exact RT.done rfl rfl (Le.refl _) trivial rfl (dom0 rfl)
/-! ### call_tail: function 126 -/
def call_tail.f (k : Nat) (a0 : ByteArray) : Option (Int × ByteArray × Bool) := (if a0 = (⟨#[112]⟩ : ByteArray) then Option.some (3, (⟨#[]⟩ : ByteArray), true) else (if a0 = (⟨#[109]⟩ : ByteArray) then Option.some (4, (⟨#[]⟩ : ByteArray), true) else (if a0 = (⟨#[109, 109]⟩ : ByteArray) then Option.some (5, (⟨#[]⟩ : ByteArray), true) else (if a0 = (⟨#[97, 109]⟩ : ByteArray) then Option.some (6, (⟨#[]⟩ : ByteArray), true) else (if (a0.size : Int) = 1 then (if 0 < (a0.size : Int) then ((call_isDigit.f (bt a0 0)).bind fun r2 => (if r2 = true then Option.some (2, a0, true) else ((call_isBegin.f k a0).bind fun r3 => Option.some (1, a0, r3)))) else Option.none) else ((call_isBegin.f k a0).bind fun r5 => Option.some (1, a0, r5)))))))
theorem call_tail.ok (k : Nat) (a0 : ByteArray) (r : Int × ByteArray × Bool) (h : call_tail.f k a0 = some r) : Ct Tryz.prog B 126 [.str a0] (ofL []) (.tup [.int .i64 r.1, .str r.2.1, .bool r.2.2]) (ofL []) := by
  refine Ct.of (Y := (fam Tryz.f126 [] [] [] (fun r : Int × ByteArray × Bool => .tup [.int .i64 r.1, .str r.2.1, .bool r.2.2]) (fun r => []))) Tryz.func126 rfl Tryz.call126 rfl rfl ?_ r h
  unfold call_tail.f
  refine RS.go ?_
  refine RT.br rfl (fun c10 => ?_) (fun c10 => ?_)
  · exact RT.done rfl rfl (Le.tup (LeL.cons (Le.refl _) (LeL.cons (Le.refl _) (LeL.cons (Le.refl _) (LeL.nil))))) trivial rfl (dom0 rfl)
  · refine RT.br rfl (fun c9 => ?_) (fun c9 => ?_)
    · exact RT.done rfl rfl (Le.tup (LeL.cons (Le.refl _) (LeL.cons (Le.refl _) (LeL.cons (Le.refl _) (LeL.nil))))) trivial rfl (dom0 rfl)
    · refine RT.br rfl (fun c8 => ?_) (fun c8 => ?_)
      · exact RT.done rfl rfl (Le.tup (LeL.cons (Le.refl _) (LeL.cons (Le.refl _) (LeL.cons (Le.refl _) (LeL.nil))))) trivial rfl (dom0 rfl)
      · refine RT.br rfl (fun c7 => ?_) (fun c7 => ?_)
        · exact RT.done rfl rfl (Le.tup (LeL.cons (Le.refl _) (LeL.cons (Le.refl _) (LeL.cons (Le.refl _) (LeL.nil))))) trivial rfl (dom0 rfl)
        · refine RT.br rfl (fun c6 => ?_) (fun c6 => ?_)
          · refine RT.brT rfl ?_
            refine RT.brT rfl ?_
            refine RT.br rfl (fun c1 => ?_) (fun c1 => RT.none)
            refine RT.brT rfl ?_
            refine RT.call0 rfl (fun _ h => call_isDigit.ok (bt a0 0) _ h) (LeL.eq rfl) (fun _ => rfl) (fun r2 => ?_)
            refine RS.go ?_
            refine RT.brT rfl ?_
            refine RT.brB rfl (fun c4 => ?_) (fun c4 => ?_)
            · exact RT.done rfl rfl (Le.tup (LeL.cons (Le.refl _) (LeL.cons (Le.refl _) (LeL.cons (Le.refl _) (LeL.nil))))) trivial rfl (dom0 rfl)
            · refine RT.call0 rfl (fun _ h => call_isBegin.ok k a0 _ h) (LeL.eq rfl) (fun _ => rfl) (fun r3 => ?_)
              refine RS.go ?_
              exact RT.done rfl rfl (Le.tup (LeL.cons (Le.refl _) (LeL.cons (Le.refl _) (LeL.cons (Le.refl _) (LeL.nil))))) trivial rfl (dom0 rfl)
          · refine RT.brF rfl ?_
            refine RT.brF rfl ?_
            refine RT.brF rfl ?_
            refine RT.brF rfl ?_
            refine RT.call0 rfl (fun _ h => call_isBegin.ok k a0 _ h) (LeL.eq rfl) (fun _ => rfl) (fun r5 => ?_)
            refine RS.go ?_
            exact RT.done rfl rfl (Le.tup (LeL.cons (Le.refl _) (LeL.cons (Le.refl _) (LeL.cons (Le.refl _) (LeL.nil))))) trivial rfl (dom0 rfl)
/-! ### call_Parts: function 66 -/
def call_Parts.f (k : Nat) (a0 : ByteArray) : Option (ByteArray × ByteArray × ByteArray × Int × ByteArray × Bool) := (if (a0.size : Int) > 14 then Option.some ((⟨#[]⟩ : ByteArray), (⟨#[]⟩ : ByteArray), (⟨#[]⟩ : ByteArray), 0, (⟨#[]⟩ : ByteArray), false) else ((call_based.f k a0).bind fun r1 => (if r1.2.2.2.2.2 = true then Option.some (r1.1, r1.2.1, r1.2.2.1, r1.2.2.2.1, r1.2.2.2.2.1, true) else ((strings_Cut.f a0 (⟨#[47]⟩ : ByteArray)).bind fun r2 => (if r2.2.2 = true then ((call_based.f k r2.2.1).bind fun r3 => (if r3.2.2.2.2.2 = true then ((call_isBegin.f k r2.1).bind fun r4 => (if r4 = true then Option.some (r3.1, r3.2.1, r3.2.2.1, 1, r2.1, true) else ((call_based.f k r2.1).bind fun r5 => ((call_tail.f k r2.2.1).bind fun r6 => (if r5.2.2.2.2.2 = true then (if r6.2.2 = true then Option.some (r5.1, r5.2.1, r5.2.2.1, r6.1, r6.2.1, true) else Option.some ((⟨#[]⟩ : ByteArray), (⟨#[]⟩ : ByteArray), (⟨#[]⟩ : ByteArray), 0, (⟨#[]⟩ : ByteArray), false)) else Option.some ((⟨#[]⟩ : ByteArray), (⟨#[]⟩ : ByteArray), (⟨#[]⟩ : ByteArray), 0, (⟨#[]⟩ : ByteArray), false)))))) else ((call_based.f k r2.1).bind fun r10 => ((call_tail.f k r2.2.1).bind fun r11 => (if r10.2.2.2.2.2 = true then (if r11.2.2 = true then Option.some (r10.1, r10.2.1, r10.2.2.1, r11.1, r11.2.1, true) else Option.some ((⟨#[]⟩ : ByteArray), (⟨#[]⟩ : ByteArray), (⟨#[]⟩ : ByteArray), 0, (⟨#[]⟩ : ByteArray), false)) else Option.some ((⟨#[]⟩ : ByteArray), (⟨#[]⟩ : ByteArray), (⟨#[]⟩ : ByteArray), 0, (⟨#[]⟩ : ByteArray), false)))))) else Option.some ((⟨#[]⟩ : ByteArray), (⟨#[]⟩ : ByteArray), (⟨#[]⟩ : ByteArray), 0, (⟨#[]⟩ : ByteArray), false))))))
theorem call_Parts.ok (k : Nat) (a0 : ByteArray) (r : ByteArray × ByteArray × ByteArray × Int × ByteArray × Bool) (h : call_Parts.f k a0 = some r) : Ct Tryz.prog B 66 [.str a0] (ofL []) (.tup [.agg [.str r.1, .str r.2.1, .str r.2.2.1, .int .i64 r.2.2.2.1, .str r.2.2.2.2.1], .bool r.2.2.2.2.2]) (ofL []) := by
  refine Ct.of (Y := (fam Tryz.f66 [] [] [] (fun r : ByteArray × ByteArray × ByteArray × Int × ByteArray × Bool => .tup [.agg [.str r.1, .str r.2.1, .str r.2.2.1, .int .i64 r.2.2.2.1, .str r.2.2.2.2.1], .bool r.2.2.2.2.2]) (fun r => []))) Tryz.func66 rfl Tryz.call66 rfl rfl ?_ r h
  unfold call_Parts.f
  refine RS.go ?_
  refine RT.br rfl (fun c17 => ?_) (fun c17 => ?_)
  · exact RT.done rfl rfl (Le.tup (LeL.cons (Le.refl _) (LeL.cons (Le.refl _) (LeL.nil)))) trivial rfl (dom0 rfl)
  · refine RT.call0 rfl (fun _ h => call_based.ok k a0 _ h) (LeL.eq rfl) (fun _ => rfl) (fun r1 => ?_)
    refine RS.go ?_
    refine RT.brB rfl (fun c16 => ?_) (fun c16 => ?_)
    · exact RT.done rfl rfl (Le.tup (LeL.cons (Le.refl _) (LeL.cons (Le.refl _) (LeL.nil)))) trivial rfl (dom0 rfl)
    · refine RT.call0 rfl (fun _ h => strings_Cut.ok a0 (⟨#[47]⟩ : ByteArray) _ h) (LeL.eq rfl) (fun _ => rfl) (fun r2 => ?_)
      refine RS.go ?_
      refine RT.brBN rfl (fun c15 => ?_) (fun c15 => ?_)
      · refine RT.call0 rfl (fun _ h => call_based.ok k r2.2.1 _ h) (LeL.eq rfl) (fun _ => rfl) (fun r3 => ?_)
        refine RS.go ?_
        refine RT.brB rfl (fun c14 => ?_) (fun c14 => ?_)
        · refine RT.brT rfl ?_
          refine RT.call0 rfl (fun _ h => call_isBegin.ok k r2.1 _ h) (LeL.eq rfl) (fun _ => rfl) (fun r4 => ?_)
          refine RS.go ?_
          refine RT.brT rfl ?_
          refine RT.brB rfl (fun c9 => ?_) (fun c9 => ?_)
          · exact RT.done rfl rfl (Le.tup (LeL.cons (Le.refl _) (LeL.cons (Le.refl _) (LeL.nil)))) trivial rfl (dom0 rfl)
          · refine RT.call0 rfl (fun _ h => call_based.ok k r2.1 _ h) (LeL.eq rfl) (fun _ => rfl) (fun r5 => ?_)
            refine RS.go ?_
            refine RT.call0 rfl (fun _ h => call_tail.ok k r2.2.1 _ h) (LeL.eq rfl) (fun _ => rfl) (fun r6 => ?_)
            refine RS.go ?_
            refine RT.brBN rfl (fun c8 => ?_) (fun c8 => ?_)
            · refine RT.brF rfl ?_
              refine RT.brF rfl ?_
              refine RT.brBN rfl (fun c7 => ?_) (fun c7 => ?_)
              · exact RT.done rfl rfl (Le.tup (LeL.cons (Le.refl _) (LeL.cons (Le.refl _) (LeL.nil)))) trivial rfl (dom0 rfl)
              · exact RT.done rfl rfl (Le.tup (LeL.cons (Le.refl _) (LeL.cons (Le.refl _) (LeL.nil)))) trivial rfl (dom0 rfl)
            · refine RT.brT rfl ?_
              refine RT.brT rfl ?_
              refine RT.brT rfl ?_
              exact RT.done rfl rfl (Le.tup (LeL.cons (Le.refl _) (LeL.cons (Le.refl _) (LeL.nil)))) trivial rfl (dom0 rfl)
        · refine RT.brF rfl ?_
          refine RT.brF rfl ?_
          refine RT.brF rfl ?_
          refine RT.call0 rfl (fun _ h => call_based.ok k r2.1 _ h) (LeL.eq rfl) (fun _ => rfl) (fun r10 => ?_)
          refine RS.go ?_
          refine RT.call0 rfl (fun _ h => call_tail.ok k r2.2.1 _ h) (LeL.eq rfl) (fun _ => rfl) (fun r11 => ?_)
          refine RS.go ?_
          refine RT.brBN rfl (fun c13 => ?_) (fun c13 => ?_)
          · refine RT.brF rfl ?_
            refine RT.brF rfl ?_
            refine RT.brBN rfl (fun c12 => ?_) (fun c12 => ?_)
            · exact RT.done rfl rfl (Le.tup (LeL.cons (Le.refl _) (LeL.cons (Le.refl _) (LeL.nil)))) trivial rfl (dom0 rfl)
            · exact RT.done rfl rfl (Le.tup (LeL.cons (Le.refl _) (LeL.cons (Le.refl _) (LeL.nil)))) trivial rfl (dom0 rfl)
          · refine RT.brT rfl ?_
            refine RT.brT rfl ?_
            refine RT.brT rfl ?_
            exact RT.done rfl rfl (Le.tup (LeL.cons (Le.refl _) (LeL.cons (Le.refl _) (LeL.nil)))) trivial rfl (dom0 rfl)
      · exact RT.done rfl rfl (Le.tup (LeL.cons (Le.refl _) (LeL.cons (Le.refl _) (LeL.nil)))) trivial rfl (dom0 rfl)
/-! ### call_Apart: function 60 -/
def call_Apart.f (k : Nat) (a0 : ByteArray) : Option (ByteArray × ByteArray × ByteArray × Int × ByteArray × Int) := ((call_Parts.f k a0).bind fun r1 => (if r1.2.2.2.2.2 = true then Option.some (r1.1, r1.2.1, r1.2.2.1, r1.2.2.2.1, r1.2.2.2.2.1, 0) else Option.some ((⟨#[]⟩ : ByteArray), (⟨#[]⟩ : ByteArray), (⟨#[]⟩ : ByteArray), 0, (⟨#[]⟩ : ByteArray), 3)))
theorem call_Apart.ok (k : Nat) (a0 : ByteArray) (r : ByteArray × ByteArray × ByteArray × Int × ByteArray × Int) (h : call_Apart.f k a0 = some r) : Ct Tryz.prog B 60 [.str a0] (ofL []) (.tup [.agg [.str r.1, .str r.2.1, .str r.2.2.1, .int .i64 r.2.2.2.1, .str r.2.2.2.2.1], .int .i64 r.2.2.2.2.2]) (ofL []) := by
  refine Ct.of (Y := (fam Tryz.f60 [] [] [] (fun r : ByteArray × ByteArray × ByteArray × Int × ByteArray × Int => .tup [.agg [.str r.1, .str r.2.1, .str r.2.2.1, .int .i64 r.2.2.2.1, .str r.2.2.2.2.1], .int .i64 r.2.2.2.2.2]) (fun r => []))) Tryz.func60 rfl Tryz.call60 rfl rfl ?_ r h
  unfold call_Apart.f
  refine RS.go ?_
  refine RT.call0 rfl (fun _ h => call_Parts.ok k a0 _ h) (LeL.eq rfl) (fun _ => rfl) (fun r1 => ?_)
  refine RS.go ?_
  refine RT.brBN rfl (fun c2 => ?_) (fun c2 => ?_)
  · exact RT.done rfl rfl (Le.tup (LeL.cons (Le.refl _) (LeL.cons (Le.refl _) (LeL.nil)))) trivial rfl (dom0 rfl)
  · exact RT.done rfl rfl (Le.tup (LeL.cons (Le.refl _) (LeL.cons (Le.refl _) (LeL.nil)))) trivial rfl (dom0 rfl)
/-! ### place_cosine: function 118 -/
mutual
def place_cosine.j4 : Nat → Int → Option (Int)
  | 0, _ => Option.none
  | k + 1, x3j4 => (if x3j4 > 324000 then ((place_cosine.f k (wrap64 (648000 - x3j4))).bind fun r1 => Option.some (wrap64 (0 - r1))) else (if wrap64 (419904000000 + (wrap64 (x3j4 * x3j4))) = 0 then Option.none else Option.some (wrap64 (Int.tdiv (wrap64 ((wrap64 (419904000000 - (wrap64 ((wrap64 (4 * x3j4)) * x3j4)))) * 1000000)) (wrap64 (419904000000 + (wrap64 (x3j4 * x3j4))))))))
def place_cosine.f : Nat → Int → Option (Int)
  | 0, _ => Option.none
  | k + 1, a0 => (if Int.tmod (wrap64 ((Int.tmod a0 1296000) + 1296000)) 1296000 > 648000 then place_cosine.j4 k (wrap64 (1296000 - (Int.tmod (wrap64 ((Int.tmod a0 1296000) + 1296000)) 1296000))) else place_cosine.j4 k (Int.tmod (wrap64 ((Int.tmod a0 1296000) + 1296000)) 1296000))
end
theorem place_cosine.loops : ∀ k, (∀ (x3j4 : Int), RS (fam Tryz.f118 [4] [] [] (fun r : Int => .int .i64 r) (fun r => [])) (Func.reg Tryz.f118 4) ⟨ofT [(3, .int .i64 x3j4)], ofL []⟩ (place_cosine.j4 k x3j4)) ∧ ∀ (a0 : Int) (r : Int) (h : place_cosine.f k a0 = some r), Ct Tryz.prog B 118 [.int .i64 a0] (ofL []) (.int .i64 r) (ofL [])
  | 0 => ⟨by intro _; simp only [place_cosine.j4]; exact RS.none, by intro _ r h; simp only [place_cosine.f] at h; cases h⟩
  | k + 1 => by
    have ih := place_cosine.loops k
    refine ⟨?_, ?_⟩
    · intro x3j4
      simp only [place_cosine.j4]
      refine RS.region ?_
      refine RS.go ?_
      refine RT.br rfl (fun c3 => ?_) (fun c3 => ?_)
      · refine RT.call0 rfl (fun _ h => ih.2 (wrap64 (648000 - x3j4)) _ h) (LeL.eq rfl) (fun _ => rfl) (fun r1 => ?_)
        refine RS.go ?_
        exact RT.done rfl rfl (Le.refl _) trivial rfl (dom0 rfl)
      · refine RT.br rfl (fun _ => RT.none) (fun c2 => ?_)
        exact RT.done rfl rfl (Le.refl _) trivial rfl (dom0 rfl)
    · intro a0 r h
      refine Ct.of (Y := (fam Tryz.f118 [4] [] [] (fun r : Int => .int .i64 r) (fun r => []))) Tryz.func118 rfl Tryz.call118 rfl rfl ?_ r h
      simp only [place_cosine.f]
      refine RS.go ?_
      refine RT.brF rfl ?_
      refine RT.brF rfl ?_
      refine RT.br rfl (fun c4 => ?_) (fun c4 => ?_)
      · refine RT.goto rfl ?_
        refine RS.weak [(3, .int .i64 (wrap64 (1296000 - (Int.tmod (wrap64 ((Int.tmod a0 1296000) + 1296000)) 1296000))))] [] ⟨Le.eq (by first | rfl | simp), trivial⟩ trivial rfl (dom0 rfl) ?_
        exact ih.1 (wrap64 (1296000 - (Int.tmod (wrap64 ((Int.tmod a0 1296000) + 1296000)) 1296000))) 
      · refine RT.goto rfl ?_
        refine RS.weak [(3, .int .i64 (Int.tmod (wrap64 ((Int.tmod a0 1296000) + 1296000)) 1296000))] [] ⟨Le.eq (by first | rfl | simp), trivial⟩ trivial rfl (dom0 rfl) ?_
        exact ih.1 (Int.tmod (wrap64 ((Int.tmod a0 1296000) + 1296000)) 1296000) 
theorem place_cosine.ok (k : Nat) (a0 : Int) (r : Int) (h : place_cosine.f k a0 = some r) : Ct Tryz.prog B 118 [.int .i64 a0] (ofL []) (.int .i64 r) (ofL []) := by
  exact (place_cosine.loops k).2 a0 r h
/-! ### place_Cosine: function 61 -/
def place_Cosine.f (k : Nat) (a0 : Int) : Option (Int × Int) := ((kit_Outside.f a0 (-1296000000) 1296000000).bind fun r1 => (if r1 = true then Option.some (0, 1) else ((place_cosine.f k a0).bind fun r2 => Option.some (r2, 0))))
theorem place_Cosine.ok (k : Nat) (a0 : Int) (r : Int × Int) (h : place_Cosine.f k a0 = some r) : Ct Tryz.prog B 61 [.int .i64 a0] (ofL []) (.tup [.int .i64 r.1, .int .i64 r.2]) (ofL []) := by
  refine Ct.of (Y := (fam Tryz.f61 [] [] [] (fun r : Int × Int => .tup [.int .i64 r.1, .int .i64 r.2]) (fun r => []))) Tryz.func61 rfl Tryz.call61 rfl rfl ?_ r h
  unfold place_Cosine.f
  refine RS.go ?_
  refine RT.call0 rfl (fun _ h => kit_Outside.ok a0 (-1296000000) 1296000000 _ h) (LeL.eq rfl) (fun _ => rfl) (fun r1 => ?_)
  refine RS.go ?_
  refine RT.brB rfl (fun c3 => ?_) (fun c3 => ?_)
  · exact RT.done rfl rfl (Le.tup (LeL.cons (Le.refl _) (LeL.cons (Le.refl _) (LeL.nil)))) trivial rfl (dom0 rfl)
  · refine RT.call0 rfl (fun _ h => place_cosine.ok k a0 _ h) (LeL.eq rfl) (fun _ => rfl) (fun r2 => ?_)
    refine RS.go ?_
    exact RT.done rfl rfl (Le.tup (LeL.cons (Le.refl _) (LeL.cons (Le.refl _) (LeL.nil)))) trivial rfl (dom0 rfl)
/-! ### kit_Words: function 112 -/
def kit_Words.l0 : Nat → List ByteArray → List ByteArray → Int → Int → Option ((List ByteArray) × Bool)
  | 0, _, _, _, _ => Option.none
  | k + 1, x4, x9, x10, x11 => (if x11 < x10 then (if 0 ≤ x11 then (if x11 < (x9.length : Int) then (if (rdE eS x9 x11) = (⟨#[]⟩ : ByteArray) then Option.some ([], false) else kit_Words.l0 k x4 x9 x10 (wrap64 (x11 + 1))) else Option.none) else Option.none) else Option.some (x4, true))
def kit_Words.f (k : Nat) (a0 : ByteArray) : Option ((List ByteArray) × Bool) := ((strings_Split.f a0 (⟨#[32]⟩ : ByteArray)).bind fun r1 => kit_Words.l0 k r1 r1 (r1.length : Int) 0)
theorem kit_Words.loops : ∀ k, (∀ (x4 : List ByteArray) (x9 : List ByteArray) (x10 : Int) (x11 : Int), RS (fam Tryz.f112 [] [] [] (fun r : (List ByteArray) × Bool => .tup [sq eS r.1, .bool r.2]) (fun r => [])) (Func.head Tryz.f112 0) ⟨ofT [(4, sq eS x4), (9, sq eS x9), (10, .int .i64 x10), (11, .int .i64 x11)], ofL []⟩ (kit_Words.l0 k x4 x9 x10 x11))
  | 0 => by intro _ _ _ _; simp only [kit_Words.l0]; exact RS.none
  | k + 1 => by
    have ih := kit_Words.loops k
    · intro x4 x9 x10 x11
      simp only [kit_Words.l0]
      refine RS.go ?_
      refine RT.br rfl (fun c5 => ?_) (fun c5 => ?_)
      · refine RT.br rfl (fun c2 => ?_) (fun c2 => RT.none)
        refine RT.br rfl (fun c3 => ?_) (fun c3 => RT.none)
        refine RT.br rfl (fun c4 => ?_) (fun c4 => ?_)
        · exact RT.done rfl rfl (Le.tup (LeL.cons (Le.nil _ _) (LeL.cons (Le.refl _) (LeL.nil)))) trivial rfl (dom0 rfl)
        · refine RT.goto rfl ?_
          refine RS.weak [(4, sq eS x4), (9, sq eS x9), (10, .int .i64 x10), (11, .int .i64 (wrap64 (x11 + 1)))] [] ⟨Le.eq (by first | rfl | simp), Le.eq (by first | rfl | simp), Le.eq (by first | rfl | simp), Le.eq (by first | rfl | simp), trivial⟩ trivial rfl (dom0 rfl) ?_
          exact ih x4 x9 x10 (wrap64 (x11 + 1)) 
      · exact RT.done rfl rfl (Le.tup (LeL.cons (Le.refl _) (LeL.cons (Le.refl _) (LeL.nil)))) trivial rfl (dom0 rfl)
theorem kit_Words.ok (k : Nat) (a0 : ByteArray) (r : (List ByteArray) × Bool) (h : kit_Words.f k a0 = some r) : Ct Tryz.prog B 112 [.str a0] (ofL []) (.tup [sq eS r.1, .bool r.2]) (ofL []) := by
  refine Ct.of (Y := (fam Tryz.f112 [] [] [] (fun r : (List ByteArray) × Bool => .tup [sq eS r.1, .bool r.2]) (fun r => []))) Tryz.func112 rfl Tryz.call112 rfl rfl ?_ r h
  unfold kit_Words.f
  refine RS.go ?_
  refine RT.call0 rfl (fun _ h => strings_Split.ok a0 (⟨#[32]⟩ : ByteArray) _ h) (LeL.eq rfl) (fun _ => rfl) (fun r1 => ?_)
  refine RS.go ?_
  refine RT.goto rfl ?_
  refine RS.weak [(4, sq eS r1), (9, sq eS r1), (10, .int .i64 (r1.length : Int)), (11, .int .i64 0)] [] ⟨Le.eq (by first | rfl | simp), Le.eq (by first | rfl | simp), Le.eq (by first | rfl | simp), Le.eq (by first | rfl | simp), trivial⟩ trivial rfl (dom0 rfl) ?_
  exact kit_Words.loops k r1 r1 (r1.length : Int) 0 
/-! ### key_byBytes: function 64 -/
def key_byBytes.k0 : List DK := [⟨[11, 14, 16], [4], [], [4]⟩, ⟨[15], [3], [16], []⟩, ⟨[3], [3], [15], []⟩, ⟨[13], [], [14], []⟩, ⟨[12], [3], [13], []⟩, ⟨[3], [3], [12], []⟩, ⟨[1], [], [11], []⟩]
def key_byBytes.k1 : List Nat := [0, 0, 2, 6, 0, 16, 63]
def key_byBytes.l0 : Nat → Int → Int → List (Int × ByteArray) → List (ByteArray × ByteArray) → Option ((List (Int × ByteArray)))
  | 0, _, _, _, _ => Option.none
  | k + 1, x6, x7, o4, o5 => (if x7 < x6 then (if 0 ≤ x7 then (if x7 < (o5.length : Int) then (if 0 < (((rdE e_SS o5 x7).1).size : Int) then key_byBytes.l0 k x6 (wrap64 (x7 + 1)) (mput o4 (bt ((rdE e_SS o5 x7).1) 0) ((rdE e_SS o5 x7).2)) o5 else Option.none) else Option.none) else Option.none) else Option.some o4)
def key_byBytes.f (k : Nat) : Option ((List (Int × ByteArray))) := ((key_Codes.f k ).bind fun r1 => key_byBytes.l0 k (r1.length : Int) 0 ([] : List (Int × ByteArray)) r1)
theorem key_byBytes.loops : ∀ k, (∀ (x6 : Int) (x7 : Int) (o4 : List (Int × ByteArray)) (o5 : List (ByteArray × ByteArray)), RS (fam Tryz.f64 [] [] [] (fun r : (List (Int × ByteArray)) => .omap 4) (fun r => [(4, mapE (KL.ints .u8) (ByteArray.empty : ByteArray) AV.str r)])) (Func.head Tryz.f64 0) ⟨ofT [(1, .omap 4), (5, .osl 5 e_SS.w 0 o5.length o5.length), (6, .int .i64 x6), (7, .int .i64 x7)], ofL [(4, mapE (KL.ints .u8) (ByteArray.empty : ByteArray) AV.str o4), (5, bufE e_SS o5)]⟩ (key_byBytes.l0 k x6 x7 o4 o5))
  | 0 => by intro _ _ _ _; simp only [key_byBytes.l0]; exact RS.none
  | k + 1 => by
    have ih := key_byBytes.loops k
    · intro x6 x7 o4 o5
      simp only [key_byBytes.l0]
      refine RS.go ?_
      refine RT.br rfl (fun c5 => ?_) (fun c5 => ?_)
      · refine RT.req rfl (by first | exact Nat.zero_add _ | rfl | simp) ?_
        refine RT.br rfl (fun c2 => ?_) (fun c2 => RT.none)
        refine RT.br rfl (fun c3 => ?_) (fun c3 => RT.none)
        refine RT.req rfl ⟨by first | rfl | simp, elt_lt c2 (by first | exact c3 | simpa using c3)⟩ ?_
        refine RT.goto rfl ?_
        refine RS.draw rfl ?_
        refine RD.brT rfl ?_
        refine RD.br rfl (fun c4 => ?_) (fun c4 => RD.none)
        refine RD.fin key_byBytes.k0 key_byBytes.k1 rfl rfl (by decide +kernel) ?_
        refine RS.obj 4 (mapE (KL.ints .u8) (ByteArray.empty : ByteArray) AV.str (mput o4 (bt ((rdE e_SS o5 x7).1) 0) ((rdE e_SS o5 x7).2))) ⟨_, rfl, LeO.putI⟩ ?_
        refine RS.go ?_
        refine RT.goto rfl ?_
        refine RS.weak [(1, .omap 4), (5, .osl 5 e_SS.w 0 o5.length o5.length), (6, .int .i64 x6), (7, .int .i64 (wrap64 (x7 + 1)))] [(4, mapE (KL.ints .u8) (ByteArray.empty : ByteArray) AV.str (mput o4 (bt ((rdE e_SS o5 x7).1) 0) ((rdE e_SS o5 x7).2))), (5, bufE e_SS o5)] ⟨Le.eq (by first | rfl | simp), (by first | exact Le.oslN rfl (by first | rfl | simp) | exact Le.refl _ | exact Le.eq (by first | rfl | simp)), Le.eq (by first | rfl | simp), Le.eq (by first | rfl | simp), trivial⟩ ⟨⟨_, rfl, LeO.refl _⟩, ⟨_, rfl, LeO.refl _⟩, trivial⟩ rfl (dom0 rfl) ?_
        exact ih x6 (wrap64 (x7 + 1)) (mput o4 (bt ((rdE e_SS o5 x7).1) 0) ((rdE e_SS o5 x7).2)) o5 
      · exact RT.done rfl rfl (Le.refl _) ⟨⟨_, rfl, LeO.refl _⟩, trivial⟩ rfl (dom0 rfl)
theorem key_byBytes.ok (k : Nat) (r : (List (Int × ByteArray))) (h : key_byBytes.f k  = some r) : Ct Tryz.prog B 64 [] (ofL []) (.omap 4) (ofL [(4, mapE (KL.ints .u8) (ByteArray.empty : ByteArray) AV.str r)]) := by
  refine Ct.of (Y := (fam Tryz.f64 [] [] [] (fun r : (List (Int × ByteArray)) => .omap 4) (fun r => [(4, mapE (KL.ints .u8) (ByteArray.empty : ByteArray) AV.str r)]))) Tryz.func64 rfl Tryz.call64 rfl rfl ?_ r h
  unfold key_byBytes.f
  refine RS.go ?_
  refine RT.call rfl (fun _ h => key_Codes.ok k  _ h) (fun i => bif Nat.beq i 2 then 5 else i) (LeL.eq rfl) trivial (fun _ => rfl) (fun r1 => ?_)
  refine RS.go ?_
  refine RT.req rfl (by first | exact Nat.zero_add _ | rfl | simp [szf, szOf]) ?_
  refine RT.goto rfl ?_
  refine RS.weak [(1, .omap 4), (5, .osl 5 e_SS.w 0 r1.length r1.length), (6, .int .i64 (r1.length : Int)), (7, .int .i64 0)] [(4, mapE (KL.ints .u8) (ByteArray.empty : ByteArray) AV.str ([] : List (Int × ByteArray))), (5, bufE e_SS r1)] ⟨Le.eq (by first | rfl | simp), (by first | exact Le.oslN rfl (by first | rfl | simp) | exact Le.refl _ | exact Le.eq (by first | rfl | simp)), Le.eq (by first | rfl | simp), Le.eq (by first | rfl | simp), trivial⟩ ⟨⟨_, rfl, LeO.refl _⟩, ⟨_, rfl, LeO.refl _⟩, trivial⟩ rfl (dom0 rfl) ?_
  exact key_byBytes.loops k (r1.length : Int) 0 ([] : List (Int × ByteArray)) r1 
/-! ### key_CheckSaid: function 54 -/
mutual
def key_CheckSaid.l1 : Nat → List ByteArray → Int → Int → List (Int × ByteArray) → Int → Option (Int)
  | 0, _, _, _, _, _ => Option.none
  | k + 1, x20, x21, x22, o19, x28b => (if x28b < ((rdE eS x20 x22).size : Int) then (if 0 ≤ x28b then (if x28b < ((rdE eS x20 x22).size : Int) then (if (mget (ByteArray.empty : ByteArray) o19 (bt (rdE eS x20 x22) x28b)) = (⟨#[]⟩ : ByteArray) then Option.some 3 else key_CheckSaid.l1 k x20 x21 x22 o19 (wrap64 (x28b + 1))) else Option.none) else Option.none) else key_CheckSaid.l0 k x20 x21 (wrap64 (x22 + 1)) o19)
def key_CheckSaid.l0 : Nat → List ByteArray → Int → Int → List (Int × ByteArray) → Option (Int)
  | 0, _, _, _, _ => Option.none
  | k + 1, x20, x21, x22, o19 => (if x22 < x21 then (if 0 ≤ x22 then (if x22 < (x20.length : Int) then key_CheckSaid.l1 k x20 x21 x22 o19 0 else Option.none) else Option.none) else Option.some 0)
end
def key_CheckSaid.f (k : Nat) (a0 : ByteArray) : Option (Int) := (if (a0.size : Int) > 500 then Option.some 2 else ((kit_Words.f k a0).bind fun r1 => (if r1.2 = true then ((key_byBytes.f k ).bind fun r2 => key_CheckSaid.l0 k r1.1 (r1.1.length : Int) 0 r2) else Option.some 3)))
theorem key_CheckSaid.loops : ∀ k, (∀ (x20 : List ByteArray) (x21 : Int) (x22 : Int) (o19 : List (Int × ByteArray)) (x28b : Int), RS (fam Tryz.f54 [] [] [] (fun r : Int => .int .i64 r) (fun r => [])) (Func.head Tryz.f54 1) ⟨ofT [(5, .omap 19), (7, .str (rdE eS x20 x22)), (20, sq eS x20), (21, .int .i64 x21), (22, .int .i64 x22), (27, .int .i64 ((rdE eS x20 x22).size : Int)), (28, .int .i64 x28b)], ofL [(19, mapE (KL.ints .u8) (ByteArray.empty : ByteArray) AV.str o19)]⟩ (key_CheckSaid.l1 k x20 x21 x22 o19 x28b)) ∧ (∀ (x20 : List ByteArray) (x21 : Int) (x22 : Int) (o19 : List (Int × ByteArray)), RS (fam Tryz.f54 [] [] [] (fun r : Int => .int .i64 r) (fun r => [])) (Func.head Tryz.f54 0) ⟨ofT [(5, .omap 19), (20, sq eS x20), (21, .int .i64 x21), (22, .int .i64 x22)], ofL [(19, mapE (KL.ints .u8) (ByteArray.empty : ByteArray) AV.str o19)]⟩ (key_CheckSaid.l0 k x20 x21 x22 o19))
  | 0 => ⟨by intro _ _ _ _ _; simp only [key_CheckSaid.l1]; exact RS.none, by intro _ _ _ _; simp only [key_CheckSaid.l0]; exact RS.none⟩
  | k + 1 => by
    have ih := key_CheckSaid.loops k
    refine ⟨?_, ?_⟩
    · intro x20 x21 x22 o19 x28b
      simp only [key_CheckSaid.l1]
      refine RS.go ?_
      refine RT.br rfl (fun c8 => ?_) (fun c8 => ?_)
      · refine RT.br rfl (fun c5 => ?_) (fun c5 => RT.none)
        refine RT.br rfl (fun c6 => ?_) (fun c6 => RT.none)
        refine RT.req rfl (congrArg AV.str (map_end (l := o19) (d := (ByteArray.empty : ByteArray)))) ?_
        refine RT.br rfl (fun c7 => ?_) (fun c7 => ?_)
        · exact RT.done rfl rfl (Le.refl _) trivial rfl (dom0 rfl)
        · refine RT.goto rfl ?_
          refine RS.weak [(5, .omap 19), (7, .str (rdE eS x20 x22)), (20, sq eS x20), (21, .int .i64 x21), (22, .int .i64 x22), (27, .int .i64 ((rdE eS x20 x22).size : Int)), (28, .int .i64 (wrap64 (x28b + 1)))] [(19, mapE (KL.ints .u8) (ByteArray.empty : ByteArray) AV.str o19)] ⟨Le.eq (by first | rfl | simp), Le.eq (by first | rfl | simp), Le.eq (by first | rfl | simp), Le.eq (by first | rfl | simp), Le.eq (by first | rfl | simp), Le.eq (by first | rfl | simp), Le.eq (by first | rfl | simp), trivial⟩ ⟨⟨_, rfl, LeO.refl _⟩, trivial⟩ rfl (dom0 rfl) ?_
          exact ih.1 x20 x21 x22 o19 (wrap64 (x28b + 1)) 
      · refine RT.goto rfl ?_
        refine RS.weak [(5, .omap 19), (20, sq eS x20), (21, .int .i64 x21), (22, .int .i64 (wrap64 (x22 + 1)))] [(19, mapE (KL.ints .u8) (ByteArray.empty : ByteArray) AV.str o19)] ⟨Le.eq (by first | rfl | simp), Le.eq (by first | rfl | simp), Le.eq (by first | rfl | simp), Le.eq (by first | rfl | simp), trivial⟩ ⟨⟨_, rfl, LeO.refl _⟩, trivial⟩ rfl (dom0 rfl) ?_
        exact ih.2 x20 x21 (wrap64 (x22 + 1)) o19 
    · intro x20 x21 x22 o19
      simp only [key_CheckSaid.l0]
      refine RS.go ?_
      refine RT.br rfl (fun c9 => ?_) (fun c9 => ?_)
      · refine RT.br rfl (fun c3 => ?_) (fun c3 => RT.none)
        refine RT.br rfl (fun c4 => ?_) (fun c4 => RT.none)
        refine RT.goto rfl ?_
        refine RS.weak [(5, .omap 19), (7, .str (rdE eS x20 x22)), (20, sq eS x20), (21, .int .i64 x21), (22, .int .i64 x22), (27, .int .i64 ((rdE eS x20 x22).size : Int)), (28, .int .i64 0)] [(19, mapE (KL.ints .u8) (ByteArray.empty : ByteArray) AV.str o19)] ⟨Le.eq (by first | rfl | simp), Le.eq (by first | rfl | simp), Le.eq (by first | rfl | simp), Le.eq (by first | rfl | simp), Le.eq (by first | rfl | simp), Le.eq (by first | rfl | simp), Le.eq (by first | rfl | simp), trivial⟩ ⟨⟨_, rfl, LeO.refl _⟩, trivial⟩ rfl (dom0 rfl) ?_
        exact ih.1 x20 x21 x22 o19 0 
      · exact RT.done rfl rfl (Le.refl _) trivial rfl (dom0 rfl)
theorem key_CheckSaid.ok (k : Nat) (a0 : ByteArray) (r : Int) (h : key_CheckSaid.f k a0 = some r) : Ct Tryz.prog B 54 [.str a0] (ofL []) (.int .i64 r) (ofL []) := by
  refine Ct.of (Y := (fam Tryz.f54 [] [] [] (fun r : Int => .int .i64 r) (fun r => []))) Tryz.func54 rfl Tryz.call54 rfl rfl ?_ r h
  unfold key_CheckSaid.f
  refine RS.go ?_
  refine RT.br rfl (fun c11 => ?_) (fun c11 => ?_)
  · exact RT.done rfl rfl (Le.refl _) trivial rfl (dom0 rfl)
  · refine RT.call0 rfl (fun _ h => kit_Words.ok k a0 _ h) (LeL.eq rfl) (fun _ => rfl) (fun r1 => ?_)
    refine RS.go ?_
    refine RT.brBN rfl (fun c10 => ?_) (fun c10 => ?_)
    · refine RT.call rfl (fun _ h => key_byBytes.ok k  _ h) (fun i => bif Nat.beq i 4 then 19 else i) (LeL.eq rfl) trivial (fun _ => rfl) (fun r2 => ?_)
      refine RS.go ?_
      refine RT.goto rfl ?_
      refine RS.weak [(5, .omap 19), (20, sq eS r1.1), (21, .int .i64 (r1.1.length : Int)), (22, .int .i64 0)] [(19, mapE (KL.ints .u8) (ByteArray.empty : ByteArray) AV.str r2)] ⟨Le.eq (by first | rfl | simp), Le.eq (by first | rfl | simp), Le.eq (by first | rfl | simp), Le.eq (by first | rfl | simp), trivial⟩ ⟨⟨_, rfl, LeO.refl _⟩, trivial⟩ rfl (dom0 rfl) ?_
      exact (key_CheckSaid.loops k).2 r1.1 (r1.1.length : Int) 0 r2 
    · exact RT.done rfl rfl (Le.refl _) trivial rfl (dom0 rfl)
end Go.EV
