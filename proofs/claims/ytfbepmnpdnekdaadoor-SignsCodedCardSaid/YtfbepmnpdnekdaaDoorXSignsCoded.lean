/- Printed by a program of this session: a Lean function for each function that the law reaches, and that the code comes to it. -/
import Derived.Test.YtfbepmnpdnekdaaDoorEvS
set_option linter.unusedVariables false
set_option linter.unusedSimpArgs false
namespace Go.EV
open Go Go.Proofs Go.RowKit
set_option maxHeartbeats 4000000
set_option maxRecDepth 100000
set_option linter.unusedVariables false
def str_0 : ByteArray := ⟨#[97, 98, 99, 100, 101, 102, 103, 104, 105, 106, 107, 108, 109, 110, 111, 112, 113, 114, 115, 116, 117, 118, 119, 120, 121, 122, 48, 49, 50, 51, 52, 53, 54, 55, 56, 57, 47, 63, 61, 43, 32]⟩
def str_1 : ByteArray := ⟨#[46, 45, 32, 45, 46, 46, 46, 32, 45, 46, 45, 46, 32, 45, 46, 46, 32, 46, 32, 46, 46, 45, 46, 32, 45, 45, 46, 32, 46, 46, 46, 46, 32, 46, 46, 32, 46, 45, 45, 45, 32, 45, 46, 45, 32, 46, 45, 46, 46, 32, 45, 45, 32, 45, 46, 32, 45, 45, 45, 32, 46, 45, 45, 46, 32, 45, 45, 46, 45, 32, 46, 45, 46, 32, 46, 46, 46, 32, 45, 32, 46, 46, 45, 32, 46, 46, 46, 45, 32, 46, 45, 45, 32, 45, 46, 46, 45, 32, 45, 46, 45, 45, 32, 45, 45, 46, 46, 32, 45, 45, 45, 45, 45, 32, 46, 45, 45, 45, 45, 32, 46, 46, 45, 45, 45, 32, 46, 46, 46, 45, 45, 32, 46, 46, 46, 46, 45, 32, 46, 46, 46, 46, 46, 32, 45, 46, 46, 46, 46, 32, 45, 45, 46, 46, 46, 32, 45, 45, 45, 46, 46, 32, 45, 45, 45, 45, 46, 32, 45, 46, 46, 45, 46, 32, 46, 46, 45, 45, 46, 46, 32, 45, 46, 46, 46, 45, 32, 46, 45, 46, 45, 46]⟩
def str_2 : ByteArray := ⟨#[97, 98, 99, 100, 101, 102, 103, 104, 105, 106, 107, 108, 109, 110, 111, 112, 113, 114, 115, 116, 117, 118, 119, 120, 121, 122, 48, 49, 50, 51, 52, 53, 54, 55, 56, 57, 47, 63, 61, 43]⟩
def str_3 : ByteArray := ⟨#[97, 32, 46, 45, 32, 98, 32, 45, 46, 46, 46, 32, 99, 32, 45, 46, 45, 46, 32, 100, 32, 45, 46, 46, 32, 101, 32, 46, 32, 102, 32, 46, 46, 45, 46, 32, 103, 32, 45, 45, 46, 32, 104, 32, 46, 46, 46, 46, 32, 105, 32, 46, 46, 32, 106, 32, 46, 45, 45, 45, 32, 107, 32, 45, 46, 45, 32, 108, 32, 46, 45, 46, 46, 32, 109, 32, 45, 45, 32, 110, 32, 45, 46, 32, 111, 32, 45, 45, 45, 32, 112, 32, 46, 45, 45, 46, 32, 113, 32, 45, 45, 46, 45, 32, 114, 32, 46, 45, 46, 32, 115, 32, 46, 46, 46, 32, 116, 32, 45, 32, 117, 32, 46, 46, 45, 32, 118, 32, 46, 46, 46, 45, 32, 119, 32, 46, 45, 45, 32, 120, 32, 45, 46, 46, 45, 32, 121, 32, 45, 46, 45, 45, 32, 122, 32, 45, 45, 46, 46, 32, 48, 32, 45, 45, 45, 45, 45, 32, 49, 32, 46, 45, 45, 45, 45, 32, 50, 32, 46, 46, 45, 45, 45, 32, 51, 32, 46, 46, 46, 45, 45, 32, 52, 32, 46, 46, 46, 46, 45, 32, 53, 32, 46, 46, 46, 46, 46, 32, 54, 32, 45, 46, 46, 46, 46, 32, 55, 32, 45, 45, 46, 46, 46, 32, 56, 32, 45, 45, 45, 46, 46, 32, 57, 32, 45, 45, 45, 45, 46, 32, 47, 32, 45, 46, 46, 45, 46, 32, 63, 32, 46, 46, 45, 45, 46, 46, 32, 61, 32, 45, 46, 46, 46, 45, 32, 43, 32, 46, 45, 46, 45, 46]⟩
def e_SS.c : (ByteArray × ByteArray) → Nat → AV
  | x, 0 => .str x.1
  | x, _ => .str x.2
def e_SS : Enc (ByteArray × ByteArray) := ⟨2, (ByteArray.empty, ByteArray.empty), e_SS.c⟩
def e_L.c : List ByteArray → Nat → AV
  | x, _ => sq eS x
def e_L : Enc (List ByteArray) := ⟨1, [], e_L.c⟩
/-! ### pilemake_Below: function 96 -/
def pilemake_Below.j6 : Nat → Int → Option (Int)
  | 0, _ => Option.none
  | k + 1, x0j6 => Option.some x0j6
def pilemake_Below.f (k : Nat) (a0 : Int) (a1 : Int) : Option (Int) := (if a1 < 1 then Option.some 0 else (if a1 = 0 then Option.none else (if Int.tmod a0 a1 < 0 then pilemake_Below.j6 k (wrap64 ((Int.tmod a0 a1) + a1)) else pilemake_Below.j6 k (Int.tmod a0 a1))))
theorem pilemake_Below.loops : ∀ k, (∀ (x0j6 : Int), RS (fam Tryd.f96 [6] [] [] (fun r : Int => .int .i64 r) (fun r => [])) (Func.reg Tryd.f96 6) ⟨ofT [(0, .int .i64 x0j6)], ofL []⟩ (pilemake_Below.j6 k x0j6))
  | 0 => by intro _; simp only [pilemake_Below.j6]; exact RS.none
  | k + 1 => by
    have ih := pilemake_Below.loops k
    · intro x0j6
      simp only [pilemake_Below.j6]
      refine RS.region ?_
      refine RS.go ?_
      exact RT.done rfl rfl (Le.refl _) trivial rfl (dom0 rfl)
theorem pilemake_Below.ok (k : Nat) (a0 : Int) (a1 : Int) (r : Int) (h : pilemake_Below.f k a0 a1 = some r) : Ct Tryd.prog B 96 [.int .i64 a0, .int .i64 a1] (ofL []) (.int .i64 r) (ofL []) := by
  refine Ct.of (Y := (fam Tryd.f96 [6] [] [] (fun r : Int => .int .i64 r) (fun r => []))) Tryd.func96 rfl Tryd.call96 rfl rfl ?_ r h
  unfold pilemake_Below.f
  refine RS.go ?_
  refine RT.br rfl (fun c3 => ?_) (fun c3 => ?_)
  · exact RT.done rfl rfl (Le.refl _) trivial rfl (dom0 rfl)
  · refine RT.br rfl (fun _ => RT.none) (fun c2 => ?_)
    refine RT.br rfl (fun c1 => ?_) (fun c1 => ?_)
    · refine RT.goto rfl ?_
      refine RS.weak [(0, .int .i64 (wrap64 ((Int.tmod a0 a1) + a1)))] [] ⟨Le.eq (by first | rfl | simp), trivial⟩ trivial rfl (dom0 rfl) ?_
      exact pilemake_Below.loops k (wrap64 ((Int.tmod a0 a1) + a1)) 
    · refine RT.goto rfl ?_
      refine RS.weak [(0, .int .i64 (Int.tmod a0 a1))] [] ⟨Le.eq (by first | rfl | simp), trivial⟩ trivial rfl (dom0 rfl) ?_
      exact pilemake_Below.loops k (Int.tmod a0 a1) 
/-! ### pilemake_Stream_Next: function 52 -/
def pilemake_Stream_Next.k0 : List DK := [⟨[48], [], [6], []⟩, ⟨[42, 47], [], [48], []⟩, ⟨[46], [], [47], []⟩, ⟨[45], [100000], [46], []⟩, ⟨[44], [100000], [45], []⟩, ⟨[43], [100000], [44], []⟩, ⟨[0], [], [43], []⟩, ⟨[41], [], [42], []⟩, ⟨[40], [100000], [41], []⟩, ⟨[39], [100000], [40], []⟩, ⟨[38], [100000], [39], []⟩, ⟨[0], [], [38], []⟩]
def pilemake_Stream_Next.k1 : List Nat := [0, 1, 3, 7, 15, 0, 32, 96, 224, 480, 1023, 2047]
def pilemake_Stream_Next.k2 : List DK := [⟨[37], [], [5], []⟩, ⟨[31, 36], [], [37], []⟩, ⟨[35], [], [36], []⟩, ⟨[34], [100000], [35], []⟩, ⟨[33], [100000], [34], []⟩, ⟨[32], [100000], [33], []⟩, ⟨[0], [], [32], []⟩, ⟨[30], [], [31], []⟩, ⟨[29], [100000], [30], []⟩, ⟨[28], [100000], [29], []⟩, ⟨[27], [100000], [28], []⟩, ⟨[0], [], [27], []⟩]
def pilemake_Stream_Next.f (k : Nat) (p0_0 : List Int) (p0_1 : Int) (a1 : Int) : Option (Int × (List Int) × Int) := (if (p0_0.length : Int) = 0 then ((pilemake_Below.f k (wrap64 ((wrap64 (p0_1 + 1)) * 7919)) a1).bind fun r1 => Option.some (r1, p0_0, wrap64 (p0_1 + 1))) else (if (p0_0.length : Int) = 0 then Option.none else (if (p0_0.length : Int) = 0 then Option.none else (if 0 ≤ Int.tmod (wrap64 ((wrap64 (p0_1 + 1)) - 1)) (p0_0.length : Int) then (if Int.tmod (wrap64 ((wrap64 (p0_1 + 1)) - 1)) (p0_0.length : Int) < (p0_0.length : Int) then ((pilemake_Below.f k (rd p0_0 (Int.tmod (wrap64 ((wrap64 (p0_1 + 1)) - 1)) (p0_0.length : Int))) 1073741824).bind fun r4 => ((pilemake_Below.f k (wrap64 (r4 + (wrap64 ((wrap64 (Int.tdiv (wrap64 ((wrap64 (p0_1 + 1)) - 1)) (p0_0.length : Int))) * (wrap64 (7919 + (Int.tmod (wrap64 ((wrap64 (p0_1 + 1)) - 1)) (p0_0.length : Int)))))))) a1).bind fun r5 => Option.some (r5, p0_0, wrap64 (p0_1 + 1)))) else Option.none) else Option.none))))
theorem pilemake_Stream_Next.ok (k : Nat) (p0_0 : List Int) (p0_1 : Int) (a1 : Int) (r : Int × (List Int) × Int) (h : pilemake_Stream_Next.f k p0_0 p0_1 a1 = some r) : Ct Tryd.prog B 52 [.ref 100000 0 0 0 2, .int .i64 a1] (ofL [(100000, .box [sq eI p0_0, .int .i64 p0_1])]) (.int .i64 r.1) (ofL [(100000, .box [sq eI r.2.1, .int .i64 r.2.2])]) := by
  refine Ct.of (Y := (fam Tryd.f52 [] [] [(100000, .box [sq eI p0_0, .int .i64 p0_1])] (fun r : Int × (List Int) × Int => .int .i64 r.1) (fun r => [(100000, .box [sq eI r.2.1, .int .i64 r.2.2])]))) Tryd.func52 rfl Tryd.call52 rfl rfl ?_ r h
  unfold pilemake_Stream_Next.f
  refine RS.go ?_
  refine RT.br rfl (fun c8 => ?_) (fun c8 => ?_)
  · refine RT.call0 rfl (fun _ h => pilemake_Below.ok k (wrap64 ((wrap64 (p0_1 + 1)) * 7919)) a1 _ h) (LeL.eq rfl) (fun _ => rfl) (fun r1 => ?_)
    refine RS.go ?_
    exact RT.done rfl rfl (Le.refl _) ⟨⟨_, rfl, LeO.refl _⟩, trivial⟩ rfl (dom_of rfl)
  · refine RT.goto rfl ?_
    refine RS.draw rfl ?_
    refine RD.br rfl (fun _ => RD.none) (fun c7 => ?_)
    refine RD.fin pilemake_Stream_Next.k2 pilemake_Stream_Next.k1 rfl rfl (by decide +kernel) ?_
    refine RS.go ?_
    refine RT.goto rfl ?_
    refine RS.draw rfl ?_
    refine RD.br rfl (fun _ => RD.none) (fun c6 => ?_)
    refine RD.fin pilemake_Stream_Next.k0 pilemake_Stream_Next.k1 rfl rfl (by decide +kernel) ?_
    refine RS.go ?_
    refine RT.br rfl (fun c2 => ?_) (fun c2 => RT.none)
    refine RT.br rfl (fun c3 => ?_) (fun c3 => RT.none)
    refine RT.call0 rfl (fun _ h => pilemake_Below.ok k (rd p0_0 (Int.tmod (wrap64 ((wrap64 (p0_1 + 1)) - 1)) (p0_0.length : Int))) 1073741824 _ h) (LeL.eq rfl) (fun _ => rfl) (fun r4 => ?_)
    refine RS.go ?_
    refine RT.call0 rfl (fun _ h => pilemake_Below.ok k (wrap64 (r4 + (wrap64 ((wrap64 (Int.tdiv (wrap64 ((wrap64 (p0_1 + 1)) - 1)) (p0_0.length : Int))) * (wrap64 (7919 + (Int.tmod (wrap64 ((wrap64 (p0_1 + 1)) - 1)) (p0_0.length : Int)))))))) a1 _ h) (LeL.eq rfl) (fun _ => rfl) (fun r5 => ?_)
    refine RS.go ?_
    exact RT.done rfl rfl (Le.refl _) ⟨⟨_, rfl, LeO.refl _⟩, trivial⟩ rfl (dom_of rfl)
/-! ### pilemake_Stream_Range: function 47 -/
def pilemake_Stream_Range.f (k : Nat) (p0_0 : List Int) (p0_1 : Int) (a1 : Int) (a2 : Int) : Option (Int × (List Int) × Int) := (if a2 < a1 then Option.some (a1, p0_0, p0_1) else ((pilemake_Stream_Next.f k p0_0 p0_1 (wrap64 ((wrap64 (a2 - a1)) + 1))).bind fun r1 => Option.some (wrap64 (a1 + r1.1), r1.2.1, r1.2.2)))
theorem pilemake_Stream_Range.ok (k : Nat) (p0_0 : List Int) (p0_1 : Int) (a1 : Int) (a2 : Int) (r : Int × (List Int) × Int) (h : pilemake_Stream_Range.f k p0_0 p0_1 a1 a2 = some r) : Ct Tryd.prog B 47 [.ref 100000 0 0 0 2, .int .i64 a1, .int .i64 a2] (ofL [(100000, .box [sq eI p0_0, .int .i64 p0_1])]) (.int .i64 r.1) (ofL [(100000, .box [sq eI r.2.1, .int .i64 r.2.2])]) := by
  refine Ct.of (Y := (fam Tryd.f47 [] [] [(100000, .box [sq eI p0_0, .int .i64 p0_1])] (fun r : Int × (List Int) × Int => .int .i64 r.1) (fun r => [(100000, .box [sq eI r.2.1, .int .i64 r.2.2])]))) Tryd.func47 rfl Tryd.call47 rfl rfl ?_ r h
  unfold pilemake_Stream_Range.f
  refine RS.go ?_
  refine RT.br rfl (fun c2 => ?_) (fun c2 => ?_)
  · exact RT.done rfl rfl (Le.refl _) ⟨⟨_, rfl, LeO.refl _⟩, trivial⟩ rfl (dom_of rfl)
  · refine RT.call rfl (fun _ h => pilemake_Stream_Next.ok k p0_0 p0_1 (wrap64 ((wrap64 (a2 - a1)) + 1)) _ h) (fun i => bif Nat.beq i 100000 then 100000 else i) (LeL.eq rfl) ⟨⟨_, rfl, LeO.refl _⟩, trivial⟩ (fun _ => rfl) (fun r1 => ?_)
    refine RS.go ?_
    exact RT.done rfl rfl (Le.refl _) ⟨⟨_, rfl, LeO.refl _⟩, trivial⟩ rfl (dom_of rfl)
/-! ### pilemake_Stream_Some: function 72 -/
def pilemake_Stream_Some.f (k : Nat) (p0_0 : List Int) (p0_1 : Int) (l1 : List ByteArray) : Option (ByteArray × (List Int) × Int) := ((pilemake_Stream_Next.f k p0_0 p0_1 (l1.length : Int)).bind fun r1 => (if 0 ≤ r1.1 then (if r1.1 < (l1.length : Int) then Option.some ((rdE eS l1 r1.1), r1.2.1, r1.2.2) else Option.none) else Option.none))
theorem pilemake_Stream_Some.ok (k : Nat) (p0_0 : List Int) (p0_1 : Int) (l1 : List ByteArray) (r : ByteArray × (List Int) × Int) (h : pilemake_Stream_Some.f k p0_0 p0_1 l1 = some r) : Ct Tryd.prog B 72 [.ref 100000 0 0 0 2, sq eS l1] (ofL [(100000, .box [sq eI p0_0, .int .i64 p0_1])]) (.str r.1) (ofL [(100000, .box [sq eI r.2.1, .int .i64 r.2.2])]) := by
  refine Ct.of (Y := (fam Tryd.f72 [] [] [(100000, .box [sq eI p0_0, .int .i64 p0_1])] (fun r : ByteArray × (List Int) × Int => .str r.1) (fun r => [(100000, .box [sq eI r.2.1, .int .i64 r.2.2])]))) Tryd.func72 rfl Tryd.call72 rfl rfl ?_ r h
  unfold pilemake_Stream_Some.f
  refine RS.go ?_
  refine RT.call rfl (fun _ h => pilemake_Stream_Next.ok k p0_0 p0_1 (l1.length : Int) _ h) (fun i => bif Nat.beq i 100000 then 100000 else i) (LeL.eq rfl) ⟨⟨_, rfl, LeO.refl _⟩, trivial⟩ (fun _ => rfl) (fun r1 => ?_)
  refine RS.go ?_
  refine RT.br rfl (fun c2 => ?_) (fun c2 => RT.none)
  refine RT.br rfl (fun c3 => ?_) (fun c3 => RT.none)
  exact RT.done rfl rfl (Le.refl _) ⟨⟨_, rfl, LeO.refl _⟩, trivial⟩ rfl (dom_of rfl)
def strings_Join.f (a0 : List ByteArray) (a1 : ByteArray) : Option ByteArray := if a0.length ≤ 140737488355328 ∧ (Lib.join (a0.map (·.data.toList)) a1.data.toList).length ≤ 140737488355328 then some ⟨(Lib.join (a0.map (·.data.toList)) a1.data.toList).toArray⟩ else none
theorem strings_Join.ok (a0 : List ByteArray) (a1 : ByteArray) (r : ByteArray) (h : strings_Join.f a0 a1 = some r) : Ct Tryd.prog B 73 [sq eS a0, .str a1] (ofL []) (.str r) (ofL []) := by
  unfold strings_Join.f at h
  split at h
  case isFalse => cases h
  case isTrue c =>
  cases h
  refine Ct.libA Tryd.call73 rfl rfl fun g w x hb hx => ?_
  obtain ⟨a, cap, rfl, hin⟩ := hx
  cases a0 with
  | nil =>
    refine (Tryd.strings_Join_none a cap a1 w).mono fun e w' ⟨he, hw⟩ => ⟨he, ?_⟩
    exact hw ▸ Below.refl _ _
  | cons q t =>
    obtain ⟨b, o, rfl, hbw, hcap, hcell⟩ := hin (by simp)
    refine (Tryd.strings_Join b o cap (q :: t) a1 w (fun j y hj => ?_) hbw c.1 hcap c.2).mono fun e w' ⟨he, hw⟩ => ⟨he, hw⟩
    obtain ⟨hjl, hjy⟩ := List.getElem?_eq_some_iff.1 hj
    have := hcell j 0 hjl (by decide) (.string y) (by simp [rep, eS, plain1, List.getD, hj])
    simpa [eS] using this

/-! ### pilemake_Stream_Flip: function 51 -/
def pilemake_Stream_Flip.f (k : Nat) (p0_0 : List Int) (p0_1 : Int) (a1 : Int) : Option (Bool × (List Int) × Int) := ((pilemake_Stream_Next.f k p0_0 p0_1 a1).bind fun r1 => Option.some ((decide (r1.1 = 0)), r1.2.1, r1.2.2))
theorem pilemake_Stream_Flip.ok (k : Nat) (p0_0 : List Int) (p0_1 : Int) (a1 : Int) (r : Bool × (List Int) × Int) (h : pilemake_Stream_Flip.f k p0_0 p0_1 a1 = some r) : Ct Tryd.prog B 51 [.ref 100000 0 0 0 2, .int .i64 a1] (ofL [(100000, .box [sq eI p0_0, .int .i64 p0_1])]) (.bool r.1) (ofL [(100000, .box [sq eI r.2.1, .int .i64 r.2.2])]) := by
  refine Ct.of (Y := (fam Tryd.f51 [] [] [(100000, .box [sq eI p0_0, .int .i64 p0_1])] (fun r : Bool × (List Int) × Int => .bool r.1) (fun r => [(100000, .box [sq eI r.2.1, .int .i64 r.2.2])]))) Tryd.func51 rfl Tryd.call51 rfl rfl ?_ r h
  unfold pilemake_Stream_Flip.f
  refine RS.go ?_
  refine RT.call rfl (fun _ h => pilemake_Stream_Next.ok k p0_0 p0_1 a1 _ h) (fun i => bif Nat.beq i 100000 then 100000 else i) (LeL.eq rfl) ⟨⟨_, rfl, LeO.refl _⟩, trivial⟩ (fun _ => rfl) (fun r1 => ?_)
  refine RS.go ?_
  exact RT.done rfl rfl (Le.refl _) ⟨⟨_, rfl, LeO.refl _⟩, trivial⟩ rfl (dom_of rfl)
/-! ### pilemake_Stream_Changed: function 74 -/
def pilemake_Stream_Changed.k0 : List DK := [⟨[41], [], [6], []⟩, ⟨[36, 40], [], [41], []⟩, ⟨[37, 39], [], [40], []⟩, ⟨[38], [], [39], []⟩, ⟨[7], [], [38], []⟩, ⟨[1], [], [37], []⟩, ⟨[32, 35], [], [36], []⟩, ⟨[34], [], [35], []⟩, ⟨[33], [], [34], []⟩, ⟨[8], [], [33], []⟩, ⟨[30, 31], [], [32], []⟩, ⟨[7], [], [31], []⟩, ⟨[1], [], [30], []⟩]
def pilemake_Stream_Changed.k1 : List Nat := [0, 0, 3, 0, 8, 24, 63, 0, 0, 256, 896, 2047, 4095]
def pilemake_Stream_Changed.k2 : List DK := [⟨[54], [], [6], []⟩, ⟨[50, 53], [], [54], []⟩, ⟨[51, 52], [], [53], []⟩, ⟨[7], [], [52], []⟩, ⟨[1], [], [51], []⟩, ⟨[46, 49], [], [50], []⟩, ⟨[48], [], [49], []⟩, ⟨[47], [], [48], []⟩, ⟨[8], [], [47], []⟩, ⟨[44, 45], [], [46], []⟩, ⟨[7], [], [45], []⟩, ⟨[1], [], [44], []⟩]
def pilemake_Stream_Changed.k3 : List Nat := [0, 0, 3, 0, 8, 24, 63, 0, 0, 384, 1023, 2047]
def pilemake_Stream_Changed.k4 : List DK := [⟨[62], [], [6], []⟩, ⟨[57, 61], [], [62], []⟩, ⟨[58, 60], [], [61], []⟩, ⟨[59], [], [60], []⟩, ⟨[7], [], [59], []⟩, ⟨[1], [], [58], []⟩, ⟨[55, 56], [], [57], []⟩, ⟨[7], [], [56], []⟩, ⟨[1], [], [55], []⟩]
def pilemake_Stream_Changed.k5 : List Nat := [0, 0, 3, 0, 0, 16, 56, 127, 255]
def pilemake_Stream_Changed.f (k : Nat) (p0_0 : List Int) (p0_1 : Int) (a1 : ByteArray) (a2 : ByteArray) : Option (ByteArray × (List Int) × Int) := (if a1 = (⟨#[]⟩ : ByteArray) then Option.some (a2, p0_0, p0_1) else (if a2 = (⟨#[]⟩ : ByteArray) then Option.some (a2, p0_0, p0_1) else ((pilemake_Stream_Next.f k p0_0 p0_1 (a1.size : Int)).bind fun r1 => ((pilemake_Stream_Next.f k r1.2.1 r1.2.2 (a2.size : Int)).bind fun r2 => (if 0 ≤ r2.1 then (if r2.1 < (a2.size : Int) then ((pilemake_Stream_Next.f k r2.2.1 r2.2.2 3).bind fun r5 => (if r5.1 = 0 then (if 0 ≤ r1.1 then (if r1.1 ≤ (a1.size : Int) then (if (a1.extract 0 (r1.1).toNat).size + (Utf8.encode (IntKind.i32.wrap (bt a2 r2.1))).size ≤ 9223372036854775807 then (if 0 ≤ wrap64 (r1.1 + 1) then (if wrap64 (r1.1 + 1) ≤ (a1.size : Int) then (if ((a1.extract 0 (r1.1).toNat) ++ (Utf8.encode (IntKind.i32.wrap (bt a2 r2.1)))).size + (a1.extract (wrap64 (r1.1 + 1)).toNat ((a1.size : Int)).toNat).size ≤ 9223372036854775807 then Option.some (((a1.extract 0 (r1.1).toNat) ++ (Utf8.encode (IntKind.i32.wrap (bt a2 r2.1)))) ++ (a1.extract (wrap64 (r1.1 + 1)).toNat ((a1.size : Int)).toNat), r5.2.1, r5.2.2) else Option.none) else Option.none) else Option.none) else Option.none) else Option.none) else Option.none) else (if r5.1 = 1 then (if 0 ≤ r1.1 then (if r1.1 ≤ (a1.size : Int) then (if (a1.extract 0 (r1.1).toNat).size + (Utf8.encode (IntKind.i32.wrap (bt a2 r2.1))).size ≤ 9223372036854775807 then (if 0 ≤ r1.1 then (if r1.1 ≤ (a1.size : Int) then (if ((a1.extract 0 (r1.1).toNat) ++ (Utf8.encode (IntKind.i32.wrap (bt a2 r2.1)))).size + (a1.extract (r1.1).toNat ((a1.size : Int)).toNat).size ≤ 9223372036854775807 then Option.some (((a1.extract 0 (r1.1).toNat) ++ (Utf8.encode (IntKind.i32.wrap (bt a2 r2.1)))) ++ (a1.extract (r1.1).toNat ((a1.size : Int)).toNat), r5.2.1, r5.2.2) else Option.none) else Option.none) else Option.none) else Option.none) else Option.none) else Option.none) else (if 0 ≤ r1.1 then (if r1.1 ≤ (a1.size : Int) then (if 0 ≤ wrap64 (r1.1 + 1) then (if wrap64 (r1.1 + 1) ≤ (a1.size : Int) then (if (a1.extract 0 (r1.1).toNat).size + (a1.extract (wrap64 (r1.1 + 1)).toNat ((a1.size : Int)).toNat).size ≤ 9223372036854775807 then Option.some ((a1.extract 0 (r1.1).toNat) ++ (a1.extract (wrap64 (r1.1 + 1)).toNat ((a1.size : Int)).toNat), r5.2.1, r5.2.2) else Option.none) else Option.none) else Option.none) else Option.none) else Option.none)))) else Option.none) else Option.none)))))
theorem pilemake_Stream_Changed.ok (k : Nat) (p0_0 : List Int) (p0_1 : Int) (a1 : ByteArray) (a2 : ByteArray) (r : ByteArray × (List Int) × Int) (h : pilemake_Stream_Changed.f k p0_0 p0_1 a1 a2 = some r) : Ct Tryd.prog B 74 [.ref 100000 0 0 0 2, .str a1, .str a2] (ofL [(100000, .box [sq eI p0_0, .int .i64 p0_1])]) (.str r.1) (ofL [(100000, .box [sq eI r.2.1, .int .i64 r.2.2])]) := by
  refine Ct.of (Y := (fam Tryd.f74 [] [] [(100000, .box [sq eI p0_0, .int .i64 p0_1])] (fun r : ByteArray × (List Int) × Int => .str r.1) (fun r => [(100000, .box [sq eI r.2.1, .int .i64 r.2.2])]))) Tryd.func74 rfl Tryd.call74 rfl rfl ?_ r h
  unfold pilemake_Stream_Changed.f
  refine RS.go ?_
  refine RT.br rfl (fun c26 => ?_) (fun c26 => ?_)
  · refine RT.brT rfl ?_
    refine RT.brT rfl ?_
    refine RT.brT rfl ?_
    exact RT.done rfl rfl (Le.refl _) ⟨⟨_, rfl, LeO.refl _⟩, trivial⟩ rfl (dom_of rfl)
  · refine RT.brF rfl ?_
    refine RT.brF rfl ?_
    refine RT.br rfl (fun c25 => ?_) (fun c25 => ?_)
    · exact RT.done rfl rfl (Le.refl _) ⟨⟨_, rfl, LeO.refl _⟩, trivial⟩ rfl (dom_of rfl)
    · refine RT.call rfl (fun _ h => pilemake_Stream_Next.ok k p0_0 p0_1 (a1.size : Int) _ h) (fun i => bif Nat.beq i 100000 then 100000 else i) (LeL.eq rfl) ⟨⟨_, rfl, LeO.refl _⟩, trivial⟩ (fun _ => rfl) (fun r1 => ?_)
      refine RS.go ?_
      refine RT.call rfl (fun _ h => pilemake_Stream_Next.ok k r1.2.1 r1.2.2 (a2.size : Int) _ h) (fun i => bif Nat.beq i 100000 then 100000 else i) (LeL.eq rfl) ⟨⟨_, rfl, LeO.refl _⟩, trivial⟩ (fun _ => rfl) (fun r2 => ?_)
      refine RS.go ?_
      refine RT.br rfl (fun c3 => ?_) (fun c3 => RT.none)
      refine RT.br rfl (fun c4 => ?_) (fun c4 => RT.none)
      refine RT.call rfl (fun _ h => pilemake_Stream_Next.ok k r2.2.1 r2.2.2 3 _ h) (fun i => bif Nat.beq i 100000 then 100000 else i) (LeL.eq rfl) ⟨⟨_, rfl, LeO.refl _⟩, trivial⟩ (fun _ => rfl) (fun r5 => ?_)
      refine RS.go ?_
      refine RT.br rfl (fun c24 => ?_) (fun c24 => ?_)
      · refine RT.goto rfl ?_
        refine RS.draw rfl ?_
        refine RD.br rfl (fun c6 => ?_) (fun c6 => RD.none)
        refine RD.br rfl (fun c7 => ?_) (fun c7 => RD.none)
        refine RD.br rfl (fun c8 => ?_) (fun c8 => RD.none)
        refine RD.br rfl (fun c9 => ?_) (fun c9 => RD.none)
        refine RD.br rfl (fun c10 => ?_) (fun c10 => RD.none)
        refine RD.br rfl (fun c11 => ?_) (fun c11 => RD.none)
        refine RD.fin pilemake_Stream_Changed.k0 pilemake_Stream_Changed.k1 rfl rfl (by decide +kernel) ?_
        refine RS.go ?_
        exact RT.done rfl rfl (Le.refl _) ⟨⟨_, rfl, LeO.refl _⟩, trivial⟩ rfl (dom_of rfl)
      · refine RT.br rfl (fun c23 => ?_) (fun c23 => ?_)
        · refine RT.goto rfl ?_
          refine RS.draw rfl ?_
          refine RD.br rfl (fun c12 => ?_) (fun c12 => RD.none)
          refine RD.br rfl (fun c13 => ?_) (fun c13 => RD.none)
          refine RD.br rfl (fun c14 => ?_) (fun c14 => RD.none)
          refine RD.br rfl (fun c15 => ?_) (fun c15 => RD.none)
          refine RD.br rfl (fun c16 => ?_) (fun c16 => RD.none)
          refine RD.br rfl (fun c17 => ?_) (fun c17 => RD.none)
          refine RD.fin pilemake_Stream_Changed.k2 pilemake_Stream_Changed.k3 rfl rfl (by decide +kernel) ?_
          refine RS.go ?_
          exact RT.done rfl rfl (Le.refl _) ⟨⟨_, rfl, LeO.refl _⟩, trivial⟩ rfl (dom_of rfl)
        · refine RT.goto rfl ?_
          refine RS.draw rfl ?_
          refine RD.br rfl (fun c18 => ?_) (fun c18 => RD.none)
          refine RD.br rfl (fun c19 => ?_) (fun c19 => RD.none)
          refine RD.br rfl (fun c20 => ?_) (fun c20 => RD.none)
          refine RD.br rfl (fun c21 => ?_) (fun c21 => RD.none)
          refine RD.br rfl (fun c22 => ?_) (fun c22 => RD.none)
          refine RD.fin pilemake_Stream_Changed.k4 pilemake_Stream_Changed.k5 rfl rfl (by decide +kernel) ?_
          refine RS.go ?_
          exact RT.done rfl rfl (Le.refl _) ⟨⟨_, rfl, LeO.refl _⟩, trivial⟩ rfl (dom_of rfl)
/-! ### pilemake_Stream_Saying: function 25 -/
mutual
def pilemake_Stream_Saying.l1 : Nat → Int → Int → List ByteArray → ByteArray → Int → Int → List Int → Int → Option (ByteArray × (List Int) × Int)
  | 0, _, _, _, _, _, _, _, _ => Option.none
  | k + 1, x7, x8, o3, x4b, x11b, x12b, o100000_0b, o100000_1b => (if x12b < x11b then ((pilemake_Stream_Some.f k o100000_0b o100000_1b [(⟨#[101]⟩ : ByteArray), (⟨#[116]⟩ : ByteArray), (⟨#[97]⟩ : ByteArray), (⟨#[110]⟩ : ByteArray), (⟨#[107]⟩ : ByteArray), (⟨#[112]⟩ : ByteArray), (⟨#[53]⟩ : ByteArray), (⟨#[48]⟩ : ByteArray), (⟨#[47]⟩ : ByteArray), (⟨#[63]⟩ : ByteArray), (⟨#[61]⟩ : ByteArray), (⟨#[43]⟩ : ByteArray), (⟨#[113]⟩ : ByteArray), (⟨#[122]⟩ : ByteArray)]).bind fun r3 => (if x4b.size + r3.1.size ≤ 9223372036854775807 then pilemake_Stream_Saying.l1 k x7 x8 o3 (x4b ++ r3.1) x11b (wrap64 (x12b + 1)) r3.2.1 r3.2.2 else Option.none)) else (if o3.length + 1 ≤ 549755813888 then pilemake_Stream_Saying.l0 k x7 (wrap64 (x8 + 1)) (o3 ++ [x4b]) o100000_0b o100000_1b else Option.none))
def pilemake_Stream_Saying.j14 : Nat → ByteArray → List Int → Int → Option (ByteArray × (List Int) × Int)
  | 0, _, _, _ => Option.none
  | k + 1, x5j14, o100000_0j14, o100000_1j14 => Option.some (x5j14, o100000_0j14, o100000_1j14)
def pilemake_Stream_Saying.l0 : Nat → Int → Int → List ByteArray → List Int → Int → Option (ByteArray × (List Int) × Int)
  | 0, _, _, _, _, _ => Option.none
  | k + 1, x7, x8, o3, o100000_0, o100000_1 => (if x8 < x7 then ((pilemake_Stream_Range.f k o100000_0 o100000_1 1 5).bind fun r2 => pilemake_Stream_Saying.l1 k x7 x8 o3 (⟨#[]⟩ : ByteArray) r2.1 0 r2.2.1 r2.2.2) else ((strings_Join.f o3 (⟨#[32]⟩ : ByteArray)).bind fun r7 => ((pilemake_Stream_Flip.f k o100000_0 o100000_1 12).bind fun r8 => (if r8.1 = true then ((pilemake_Stream_Changed.f k r8.2.1 r8.2.2 r7 (⟨#[32, 97, 65, 46, 10]⟩ : ByteArray)).bind fun r9 => pilemake_Stream_Saying.j14 k r9.1 r9.2.1 r9.2.2) else pilemake_Stream_Saying.j14 k r7 r8.2.1 r8.2.2))))
end
def pilemake_Stream_Saying.f (k : Nat) (p0_0 : List Int) (p0_1 : Int) : Option (ByteArray × (List Int) × Int) := ((pilemake_Stream_Range.f k p0_0 p0_1 1 4).bind fun r1 => pilemake_Stream_Saying.l0 k r1.1 0 [] r1.2.1 r1.2.2)
theorem pilemake_Stream_Saying.loops (p0_0 : List Int) (p0_1 : Int) : ∀ k, (∀ (x7 : Int) (x8 : Int) (o3 : List ByteArray) (x4b : ByteArray) (x11b : Int) (x12b : Int) (o100000_0b : List Int) (o100000_1b : Int), RS (fam Tryd.f25 [11, 14] [] [(100000, .box [sq eI p0_0, .int .i64 p0_1])] (fun r : ByteArray × (List Int) × Int => .str r.1) (fun r => [(100000, .box [sq eI r.2.1, .int .i64 r.2.2])])) (Func.head Tryd.f25 1) ⟨ofT [(0, .ref 100000 0 0 0 2), (3, .osl 3 eS.w 0 o3.length o3.length), (4, .str x4b), (7, .int .i64 x7), (8, .int .i64 x8), (11, .int .i64 x11b), (12, .int .i64 x12b)], ofL [(3, bufE eS o3), (100000, .box [sq eI o100000_0b, .int .i64 o100000_1b])]⟩ (pilemake_Stream_Saying.l1 k x7 x8 o3 x4b x11b x12b o100000_0b o100000_1b)) ∧ (∀ (x5j14 : ByteArray) (o100000_0j14 : List Int) (o100000_1j14 : Int), RS (fam Tryd.f25 [11, 14] [] [(100000, .box [sq eI p0_0, .int .i64 p0_1])] (fun r : ByteArray × (List Int) × Int => .str r.1) (fun r => [(100000, .box [sq eI r.2.1, .int .i64 r.2.2])])) (Func.reg Tryd.f25 14) ⟨ofT [(5, .str x5j14)], ofL [(100000, .box [sq eI o100000_0j14, .int .i64 o100000_1j14])]⟩ (pilemake_Stream_Saying.j14 k x5j14 o100000_0j14 o100000_1j14)) ∧ (∀ (x7 : Int) (x8 : Int) (o3 : List ByteArray) (o100000_0 : List Int) (o100000_1 : Int), RS (fam Tryd.f25 [11, 14] [] [(100000, .box [sq eI p0_0, .int .i64 p0_1])] (fun r : ByteArray × (List Int) × Int => .str r.1) (fun r => [(100000, .box [sq eI r.2.1, .int .i64 r.2.2])])) (Func.head Tryd.f25 0) ⟨ofT [(0, .ref 100000 0 0 0 2), (3, .osl 3 eS.w 0 o3.length o3.length), (7, .int .i64 x7), (8, .int .i64 x8)], ofL [(3, bufE eS o3), (100000, .box [sq eI o100000_0, .int .i64 o100000_1])]⟩ (pilemake_Stream_Saying.l0 k x7 x8 o3 o100000_0 o100000_1))
  | 0 => ⟨by intro _ _ _ _ _ _ _ _; simp only [pilemake_Stream_Saying.l1]; exact RS.none, by intro _ _ _; simp only [pilemake_Stream_Saying.j14]; exact RS.none, by intro _ _ _ _ _; simp only [pilemake_Stream_Saying.l0]; exact RS.none⟩
  | k + 1 => by
    have ih := pilemake_Stream_Saying.loops p0_0 p0_1 k
    refine ⟨?_, ?_, ?_⟩
    · intro x7 x8 o3 x4b x11b x12b o100000_0b o100000_1b
      simp only [pilemake_Stream_Saying.l1]
      refine RS.go ?_
      refine RT.br rfl (fun c6 => ?_) (fun c6 => ?_)
      · refine RT.goto rfl ?_
        refine RS.slot 16 (sq eS [(⟨#[101]⟩ : ByteArray), (⟨#[116]⟩ : ByteArray), (⟨#[97]⟩ : ByteArray), (⟨#[110]⟩ : ByteArray), (⟨#[107]⟩ : ByteArray), (⟨#[112]⟩ : ByteArray), (⟨#[53]⟩ : ByteArray), (⟨#[48]⟩ : ByteArray), (⟨#[47]⟩ : ByteArray), (⟨#[63]⟩ : ByteArray), (⟨#[61]⟩ : ByteArray), (⟨#[43]⟩ : ByteArray), (⟨#[113]⟩ : ByteArray), (⟨#[122]⟩ : ByteArray)]) (Le.lit (E := eS) (l := [(⟨#[101]⟩ : ByteArray), (⟨#[116]⟩ : ByteArray), (⟨#[97]⟩ : ByteArray), (⟨#[110]⟩ : ByteArray), (⟨#[107]⟩ : ByteArray), (⟨#[112]⟩ : ByteArray), (⟨#[53]⟩ : ByteArray), (⟨#[48]⟩ : ByteArray), (⟨#[47]⟩ : ByteArray), (⟨#[63]⟩ : ByteArray), (⟨#[61]⟩ : ByteArray), (⟨#[43]⟩ : ByteArray), (⟨#[113]⟩ : ByteArray), (⟨#[122]⟩ : ByteArray)]) (cells_of rfl)) ?_
        refine RS.go ?_
        refine RT.call rfl (fun _ h => pilemake_Stream_Some.ok k o100000_0b o100000_1b [(⟨#[101]⟩ : ByteArray), (⟨#[116]⟩ : ByteArray), (⟨#[97]⟩ : ByteArray), (⟨#[110]⟩ : ByteArray), (⟨#[107]⟩ : ByteArray), (⟨#[112]⟩ : ByteArray), (⟨#[53]⟩ : ByteArray), (⟨#[48]⟩ : ByteArray), (⟨#[47]⟩ : ByteArray), (⟨#[63]⟩ : ByteArray), (⟨#[61]⟩ : ByteArray), (⟨#[43]⟩ : ByteArray), (⟨#[113]⟩ : ByteArray), (⟨#[122]⟩ : ByteArray)] _ h) (fun i => bif Nat.beq i 100000 then 100000 else i) (LeL.eq rfl) ⟨⟨_, rfl, LeO.refl _⟩, trivial⟩ (fun _ => rfl) (fun r3 => ?_)
        refine RS.go ?_
        refine RT.br rfl (fun c4 => ?_) (fun c4 => RT.none)
        refine RT.goto rfl ?_
        refine RS.weak [(0, .ref 100000 0 0 0 2), (3, .osl 3 eS.w 0 o3.length o3.length), (4, .str (x4b ++ r3.1)), (7, .int .i64 x7), (8, .int .i64 x8), (11, .int .i64 x11b), (12, .int .i64 (wrap64 (x12b + 1)))] [(3, bufE eS o3), (100000, .box [sq eI r3.2.1, .int .i64 r3.2.2])] ⟨Le.eq (by first | rfl | simp), Le.oslN rfl (by first | rfl | simp), Le.eq (by first | rfl | simp), Le.eq (by first | rfl | simp), Le.eq (by first | rfl | simp), Le.eq (by first | rfl | simp), Le.eq (by first | rfl | simp), trivial⟩ ⟨⟨_, rfl, LeO.refl _⟩, ⟨_, rfl, LeO.refl _⟩, trivial⟩ rfl (dom_of rfl) ?_
        exact ih.1 x7 x8 o3 (x4b ++ r3.1) x11b (wrap64 (x12b + 1)) r3.2.1 r3.2.2 
      · refine RT.goto rfl ?_
        refine RS.slot 22 (sq eS [x4b]) (Le.lit (E := eS) (l := [x4b]) (cells_of rfl)) ?_
        refine RS.go ?_
        refine RT.req rfl ⟨by first | rfl | simp, by first | exact Nat.le_refl _ | simp⟩ ?_
        refine RT.not rfl (by simp <;> omega) ?_
        refine RT.br rfl (fun c5 => ?_) (fun _ => RT.none)
        refine RT.goto rfl ?_
        refine RS.obj 3 (bufE eS (o3 ++ [x4b])) ⟨_, rfl, LeO.app (l := o3) (m := [x4b]) fun _ _ _ _ => rfl⟩ ?_
        refine RS.slot 23 (.osl 3 eS.w 0 (o3 ++ [x4b]).length (o3 ++ [x4b]).length) (Le.oslN rfl (by simp)) ?_
        refine RS.go ?_
        refine RT.goto rfl ?_
        refine RS.weak [(0, .ref 100000 0 0 0 2), (3, .osl 3 eS.w 0 (o3 ++ [x4b]).length (o3 ++ [x4b]).length), (7, .int .i64 x7), (8, .int .i64 (wrap64 (x8 + 1)))] [(3, bufE eS (o3 ++ [x4b])), (100000, .box [sq eI o100000_0b, .int .i64 o100000_1b])] ⟨Le.eq (by first | rfl | simp), Le.oslN rfl (by first | rfl | simp), Le.eq (by first | rfl | simp), Le.eq (by first | rfl | simp), trivial⟩ ⟨⟨_, rfl, LeO.refl _⟩, ⟨_, rfl, LeO.refl _⟩, trivial⟩ rfl (dom_of rfl) ?_
        exact ih.2.2 x7 (wrap64 (x8 + 1)) (o3 ++ [x4b]) o100000_0b o100000_1b 
    · intro x5j14 o100000_0j14 o100000_1j14
      simp only [pilemake_Stream_Saying.j14]
      refine RS.region ?_
      refine RS.go ?_
      exact RT.done rfl rfl (Le.refl _) ⟨⟨_, rfl, LeO.refl _⟩, trivial⟩ rfl (dom_of rfl)
    · intro x7 x8 o3 o100000_0 o100000_1
      simp only [pilemake_Stream_Saying.l0]
      refine RS.go ?_
      refine RT.br rfl (fun c11 => ?_) (fun c11 => ?_)
      · refine RT.call rfl (fun _ h => pilemake_Stream_Range.ok k o100000_0 o100000_1 1 5 _ h) (fun i => bif Nat.beq i 100000 then 100000 else i) (LeL.eq rfl) ⟨⟨_, rfl, LeO.refl _⟩, trivial⟩ (fun _ => rfl) (fun r2 => ?_)
        refine RS.go ?_
        refine RT.goto rfl ?_
        refine RS.weak [(0, .ref 100000 0 0 0 2), (3, .osl 3 eS.w 0 o3.length o3.length), (4, .str (⟨#[]⟩ : ByteArray)), (7, .int .i64 x7), (8, .int .i64 x8), (11, .int .i64 r2.1), (12, .int .i64 0)] [(3, bufE eS o3), (100000, .box [sq eI r2.2.1, .int .i64 r2.2.2])] ⟨Le.eq (by first | rfl | simp), Le.oslN rfl (by first | rfl | simp), Le.eq (by first | rfl | simp), Le.eq (by first | rfl | simp), Le.eq (by first | rfl | simp), Le.eq (by first | rfl | simp), Le.eq (by first | rfl | simp), trivial⟩ ⟨⟨_, rfl, LeO.refl _⟩, ⟨_, rfl, LeO.refl _⟩, trivial⟩ rfl (dom_of rfl) ?_
        exact ih.1 x7 x8 o3 (⟨#[]⟩ : ByteArray) r2.1 0 r2.2.1 r2.2.2 
      · refine RT.goto rfl ?_
        refine RS.freeze 3 _ _ _ [(0, .ref 100000 0 0 0 2), (3, sq eS o3)] [(100000, .box [sq eI o100000_0, .int .i64 o100000_1])] rfl ⟨.inl (Le.refl _), .inr ⟨_, rfl, by first | exact Nat.le_refl _ | simp, rfl⟩, trivial⟩ ⟨⟨_, rfl, LeO.refl _⟩, trivial⟩ rfl (dom_of rfl) ?_
        refine RS.region ?_
        refine RS.go ?_
        refine RT.call0 rfl (fun _ h => strings_Join.ok o3 (⟨#[32]⟩ : ByteArray) _ h) (LeL.eq rfl) (fun _ => rfl) (fun r7 => ?_)
        refine RS.go ?_
        refine RT.call rfl (fun _ h => pilemake_Stream_Flip.ok k o100000_0 o100000_1 12 _ h) (fun i => bif Nat.beq i 100000 then 100000 else i) (LeL.eq rfl) ⟨⟨_, rfl, LeO.refl _⟩, trivial⟩ (fun _ => rfl) (fun r8 => ?_)
        refine RS.go ?_
        refine RT.brB rfl (fun c10 => ?_) (fun c10 => ?_)
        · refine RT.call rfl (fun _ h => pilemake_Stream_Changed.ok k r8.2.1 r8.2.2 r7 (⟨#[32, 97, 65, 46, 10]⟩ : ByteArray) _ h) (fun i => bif Nat.beq i 100000 then 100000 else i) (LeL.eq rfl) ⟨⟨_, rfl, LeO.refl _⟩, trivial⟩ (fun _ => rfl) (fun r9 => ?_)
          refine RS.go ?_
          refine RT.goto rfl ?_
          refine RS.weak [(5, .str r9.1)] [(100000, .box [sq eI r9.2.1, .int .i64 r9.2.2])] ⟨Le.eq (by first | rfl | simp), trivial⟩ ⟨⟨_, rfl, LeO.refl _⟩, trivial⟩ rfl (dom_of rfl) ?_
          exact ih.2.1 r9.1 r9.2.1 r9.2.2 
        · refine RT.goto rfl ?_
          refine RS.weak [(5, .str r7)] [(100000, .box [sq eI r8.2.1, .int .i64 r8.2.2])] ⟨Le.eq (by first | rfl | simp), trivial⟩ ⟨⟨_, rfl, LeO.refl _⟩, trivial⟩ rfl (dom_of rfl) ?_
          exact ih.2.1 r7 r8.2.1 r8.2.2 
theorem pilemake_Stream_Saying.ok (k : Nat) (p0_0 : List Int) (p0_1 : Int) (r : ByteArray × (List Int) × Int) (h : pilemake_Stream_Saying.f k p0_0 p0_1 = some r) : Ct Tryd.prog B 25 [.ref 100000 0 0 0 2] (ofL [(100000, .box [sq eI p0_0, .int .i64 p0_1])]) (.str r.1) (ofL [(100000, .box [sq eI r.2.1, .int .i64 r.2.2])]) := by
  refine Ct.of (Y := (fam Tryd.f25 [11, 14] [] [(100000, .box [sq eI p0_0, .int .i64 p0_1])] (fun r : ByteArray × (List Int) × Int => .str r.1) (fun r => [(100000, .box [sq eI r.2.1, .int .i64 r.2.2])]))) Tryd.func25 rfl Tryd.call25 rfl rfl ?_ r h
  unfold pilemake_Stream_Saying.f
  refine RS.go ?_
  refine RT.call rfl (fun _ h => pilemake_Stream_Range.ok k p0_0 p0_1 1 4 _ h) (fun i => bif Nat.beq i 100000 then 100000 else i) (LeL.eq rfl) ⟨⟨_, rfl, LeO.refl _⟩, trivial⟩ (fun _ => rfl) (fun r1 => ?_)
  refine RS.go ?_
  refine RT.goto rfl ?_
  refine RS.ghost 3 3 eS.w (rep eS []) rfl rfl ?_
  refine RS.weak [(0, .ref 100000 0 0 0 2), (3, .osl 3 eS.w 0 ([] : List ByteArray).length ([] : List ByteArray).length), (7, .int .i64 r1.1), (8, .int .i64 0)] [(3, bufE eS ([] : List ByteArray)), (100000, .box [sq eI r1.2.1, .int .i64 r1.2.2])] ⟨Le.eq (by first | rfl | simp), Le.oslN rfl (by first | rfl | simp), Le.eq (by first | rfl | simp), Le.eq (by first | rfl | simp), trivial⟩ ⟨⟨_, rfl, LeO.refl _⟩, ⟨_, rfl, LeO.refl _⟩, trivial⟩ rfl (dom_of rfl) ?_
  exact (pilemake_Stream_Saying.loops p0_0 p0_1 k).2.2 r1.1 0 [] r1.2.1 r1.2.2 
def strings_Trim.f (a0 : ByteArray) (a1 : ByteArray) : Option (ByteArray) := if a0.size ≤ 9223372036854775807 ∧ a1.size < 4294967281 ∧ asciiT a1 = true then some (⟨(Lib.trimS a0.data.toList a1.data.toList).toArray⟩ : ByteArray) else none
theorem strings_Trim.ok (a0 : ByteArray) (a1 : ByteArray) (r : ByteArray) (h : strings_Trim.f a0 a1 = some r) : Ct Tryd.prog B 76 [.str a0, .str a1] (ofL []) (.str r) (ofL []) := by
  unfold strings_Trim.f at h
  split at h
  case isFalse => cases h
  case isTrue c =>
  cases h
  refine Ct.lib Tryd.call76 rfl rfl fun g w hb => (Go.Proofs.Any.strings_Trim_laid Tryd.lays160 (by kernel_rfl) a0 a1 w c.1 c.2.1 (asciiT_at c.2.2)).mono fun e w' ⟨he, hw⟩ => ⟨he, hw⟩

def strings_ContainsRune.f (a0 : ByteArray) (a1 : Int) : Option (Bool) := if 0 ≤ a1 ∧ a1 < 128 then some (decide (0 ≤ Lib.indexByte a0.data.toList a1.toNat.toUInt8)) else none
theorem strings_ContainsRune.ok (a0 : ByteArray) (a1 : Int) (r : Bool) (h : strings_ContainsRune.f a0 a1 = some r) : Ct Tryd.prog B 79 [.str a0, .int .i32 a1] (ofL []) (.bool r) (ofL []) := by
  unfold strings_ContainsRune.f at h
  split at h
  case isFalse => cases h
  case isTrue c =>
  cases h
  refine Ct.lib Tryd.call79 rfl rfl fun g w hb => (Tryd.strings_ContainsRune_ascii a0 a1 w c.1 c.2).mono fun e w' ⟨he, hw⟩ => ⟨he, hw ▸ Below.refl _ _⟩

/-! ### pileref1_SaidFault_1: function 78 -/
def pileref1_SaidFault_1.f (a0 : Int) : Option (Bool) := ((strings_ContainsRune.f str_0 a0).bind fun r1 => Option.some (!r1))
theorem pileref1_SaidFault_1.ok (a0 : Int) (r : Bool) (h : pileref1_SaidFault_1.f a0 = some r) : Ct Tryd.prog B 78 [.int .i32 a0] (ofL []) (.bool r) (ofL []) := by
  refine Ct.of (Y := (fam Tryd.f78 [] [] [] (fun r : Bool => .bool r) (fun r => []))) Tryd.func78 rfl Tryd.call78 rfl rfl ?_ r h
  unfold pileref1_SaidFault_1.f
  refine RS.go ?_
  refine RT.call0 rfl (fun _ h => strings_ContainsRune.ok str_0 a0 _ h) (LeL.eq rfl) (fun _ => rfl) (fun r1 => ?_)
  refine RS.go ?_
  exact RT.done rfl rfl (Le.refl _) trivial rfl (dom0 rfl)
def strings_Split.f (a0 : ByteArray) (a1 : ByteArray) : Option (List ByteArray) := if a0.size < 4294967281 ∧ 1 ≤ a1.size then some (Lib.splitB a1 0 (Lib.countB a0 a1) a0) else none
theorem strings_Split.ok (a0 : ByteArray) (a1 : ByteArray) (r : List ByteArray) (h : strings_Split.f a0 a1 = some r) : Ct Tryd.prog B 67 [.str a0, .str a1] (ofL []) (sq eS r) (ofL []) := by
  unfold strings_Split.f at h
  split at h
  case isFalse => cases h
  case isTrue c =>
  cases h
  refine Ct.libS Tryd.call67 rfl fun g w hb => ?_
  obtain ⟨m, hm⟩ := hbML hb
  refine (Tryd.strings_Split a0 a1 m w c.1 hm c.2).mono fun e w' ⟨he, hw⟩ => ⟨_, he, ?_⟩
  subst hw
  have hl : (Lib.splitB a1 0 (Lib.countB a0 a1) a0).length = Lib.countB a0 a1 + 1 := Lib.splitB_all a1 c.2 0 _ a0 rfl
  exact newS hl

/-! ### slices_Index_string_string: function 113 -/
def slices_Index_string_string.l0 : Nat → List ByteArray → ByteArray → Int → Option (Int)
  | 0, _, _, _ => Option.none
  | k + 1, l0, a1, x8 => (if x8 < (l0.length : Int) then (if 0 ≤ x8 then (if x8 < (l0.length : Int) then (if a1 = (rdE eS l0 x8) then Option.some x8 else slices_Index_string_string.l0 k l0 a1 (wrap64 (x8 + 1))) else Option.none) else Option.none) else Option.some (-1))
def slices_Index_string_string.f (k : Nat) (l0 : List ByteArray) (a1 : ByteArray) : Option (Int) := slices_Index_string_string.l0 k l0 a1 0
theorem slices_Index_string_string.loops : ∀ k, (∀ (l0 : List ByteArray) (a1 : ByteArray) (x8 : Int), RS (fam Tryd.f113 [] [] [] (fun r : Int => .int .i64 r) (fun r => [])) (Func.head Tryd.f113 0) ⟨ofT [(0, sq eS l0), (1, .str a1), (7, .int .i64 (l0.length : Int)), (8, .int .i64 x8)], ofL []⟩ (slices_Index_string_string.l0 k l0 a1 x8))
  | 0 => by intro _ _ _; simp only [slices_Index_string_string.l0]; exact RS.none
  | k + 1 => by
    have ih := slices_Index_string_string.loops k
    · intro l0 a1 x8
      simp only [slices_Index_string_string.l0]
      refine RS.go ?_
      refine RT.br rfl (fun c4 => ?_) (fun c4 => ?_)
      · refine RT.br rfl (fun c1 => ?_) (fun c1 => RT.none)
        refine RT.br rfl (fun c2 => ?_) (fun c2 => RT.none)
        refine RT.br rfl (fun c3 => ?_) (fun c3 => ?_)
        · exact RT.done rfl rfl (Le.refl _) trivial rfl (dom0 rfl)
        · refine RT.goto rfl ?_
          refine RS.weak [(0, sq eS l0), (1, .str a1), (7, .int .i64 (l0.length : Int)), (8, .int .i64 (wrap64 (x8 + 1)))] [] ⟨Le.eq (by first | rfl | simp), Le.eq (by first | rfl | simp), Le.eq (by first | rfl | simp), Le.eq (by first | rfl | simp), trivial⟩ trivial rfl (dom0 rfl) ?_
          exact ih l0 a1 (wrap64 (x8 + 1)) 
      · exact RT.done rfl rfl (Le.refl _) trivial rfl (dom0 rfl)
theorem slices_Index_string_string.ok (k : Nat) (l0 : List ByteArray) (a1 : ByteArray) (r : Int) (h : slices_Index_string_string.f k l0 a1 = some r) : Ct Tryd.prog B 113 [sq eS l0, .str a1] (ofL []) (.int .i64 r) (ofL []) := by
  refine Ct.of (Y := (fam Tryd.f113 [] [] [] (fun r : Int => .int .i64 r) (fun r => []))) Tryd.func113 rfl Tryd.call113 rfl rfl ?_ r h
  unfold slices_Index_string_string.f
  refine RS.go ?_
  refine RT.goto rfl ?_
  refine RS.weak [(0, sq eS l0), (1, .str a1), (7, .int .i64 (l0.length : Int)), (8, .int .i64 0)] [] ⟨Le.eq (by first | rfl | simp), Le.eq (by first | rfl | simp), Le.eq (by first | rfl | simp), Le.eq (by first | rfl | simp), trivial⟩ trivial rfl (dom0 rfl) ?_
  exact slices_Index_string_string.loops k l0 a1 0 
/-! ### slices_Contains_string_string: function 80 -/
def slices_Contains_string_string.f (k : Nat) (l0 : List ByteArray) (a1 : ByteArray) : Option (Bool) := ((slices_Index_string_string.f k l0 a1).bind fun r1 => Option.some (decide (r1 ≥ 0)))
theorem slices_Contains_string_string.ok (k : Nat) (l0 : List ByteArray) (a1 : ByteArray) (r : Bool) (h : slices_Contains_string_string.f k l0 a1 = some r) : Ct Tryd.prog B 80 [sq eS l0, .str a1] (ofL []) (.bool r) (ofL []) := by
  refine Ct.of (Y := (fam Tryd.f80 [] [] [] (fun r : Bool => .bool r) (fun r => []))) Tryd.func80 rfl Tryd.call80 rfl rfl ?_ r h
  unfold slices_Contains_string_string.f
  refine RS.go ?_
  refine RT.call0 rfl (fun _ h => slices_Index_string_string.ok k l0 a1 _ h) (LeL.eq rfl) (fun _ => rfl) (fun r1 => ?_)
  refine RS.go ?_
  exact RT.done rfl rfl (Le.refl _) trivial rfl (dom0 rfl)
/-! ### strings_indexFunc_of_pileref1_SaidFault_1: function 132 -/
def strings_indexFunc_of_pileref1_SaidFault_1.l0 : Nat → ByteArray → Bool → Nat → Option (Int)
  | 0, _, _, _ => Option.none
  | k + 1, a0, a2, o10 => (if o10 < a0.size then ((pileref1_SaidFault_1.f ((Utf8.decode a0 o10).1 : Int)).bind fun r1 => (if (r1 == a2) = true then Option.some (((o10 : Nat) : Int) : Int) else strings_indexFunc_of_pileref1_SaidFault_1.l0 k a0 a2 (o10 + (Utf8.decode a0 o10).2))) else Option.some (-1))
def strings_indexFunc_of_pileref1_SaidFault_1.f (k : Nat) (a0 : ByteArray) (a2 : Bool) : Option (Int) := strings_indexFunc_of_pileref1_SaidFault_1.l0 k a0 a2 0
theorem strings_indexFunc_of_pileref1_SaidFault_1.loops : ∀ k, (∀ (a0 : ByteArray) (a2 : Bool) (o10 : Nat), RS (fam Tryd.f132 [] [] [] (fun r : Int => .int .i64 r) (fun r => [])) (Func.head Tryd.f132 0) ⟨ofT [(1, .fn 78 []), (2, .bool a2), (10, .ref 10 0 0 0 0)], ofL [(10, .it a0 o10)]⟩ (strings_indexFunc_of_pileref1_SaidFault_1.l0 k a0 a2 o10))
  | 0 => by intro _ _ _; simp only [strings_indexFunc_of_pileref1_SaidFault_1.l0]; exact RS.none
  | k + 1 => by
    have ih := strings_indexFunc_of_pileref1_SaidFault_1.loops k
    · intro a0 a2 o10
      simp only [strings_indexFunc_of_pileref1_SaidFault_1.l0]
      refine RS.go ?_
      refine RT.br rfl (fun c3 => ?_) (fun c3 => ?_)
      · refine RT.brT rfl ?_
        refine RT.call0 rfl (fun _ h => pileref1_SaidFault_1.ok ((Utf8.decode a0 o10).1 : Int) _ h) (LeL.eq rfl) (fun _ => rfl) (fun r1 => ?_)
        refine RS.go ?_
        refine RT.brB rfl (fun c2 => ?_) (fun c2 => ?_)
        · exact RT.done rfl rfl (Le.refl _) trivial rfl (dom0 rfl)
        · refine RT.goto rfl ?_
          refine RS.weak [(1, .fn 78 []), (2, .bool a2), (10, .ref 10 0 0 0 0)] [(10, .it a0 (o10 + (Utf8.decode a0 o10).2))] ⟨Le.eq (by first | rfl | simp), Le.eq (by first | rfl | simp), Le.eq (by first | rfl | simp), trivial⟩ ⟨⟨_, rfl, LeO.refl _⟩, trivial⟩ rfl (dom0 rfl) ?_
          exact ih a0 a2 (o10 + (Utf8.decode a0 o10).2) 
      · refine RT.brF rfl ?_
        exact RT.done rfl rfl (Le.refl _) trivial rfl (dom0 rfl)
theorem strings_indexFunc_of_pileref1_SaidFault_1.ok (k : Nat) (a0 : ByteArray) (a2 : Bool) (r : Int) (h : strings_indexFunc_of_pileref1_SaidFault_1.f k a0 a2 = some r) : Ct Tryd.prog B 132 [.str a0, .fn 78 [], .bool a2] (ofL []) (.int .i64 r) (ofL []) := by
  refine Ct.of (Y := (fam Tryd.f132 [] [] [] (fun r : Int => .int .i64 r) (fun r => []))) Tryd.func132 rfl Tryd.call132 rfl rfl ?_ r h
  unfold strings_indexFunc_of_pileref1_SaidFault_1.f
  refine RS.go ?_
  refine RT.goto rfl ?_
  refine RS.weak [(1, .fn 78 []), (2, .bool a2), (10, .ref 10 0 0 0 0)] [(10, .it a0 0)] ⟨Le.eq (by first | rfl | simp), Le.eq (by first | rfl | simp), Le.eq (by first | rfl | simp), trivial⟩ ⟨⟨_, rfl, LeO.refl _⟩, trivial⟩ rfl (dom0 rfl) ?_
  exact strings_indexFunc_of_pileref1_SaidFault_1.loops k a0 a2 0 
/-! ### strings_IndexFunc_of_pileref1_SaidFault_1: function 111 -/
def strings_IndexFunc_of_pileref1_SaidFault_1.f (k : Nat) (a0 : ByteArray) : Option (Int) := ((strings_indexFunc_of_pileref1_SaidFault_1.f k a0 true).bind fun r1 => Option.some r1)
theorem strings_IndexFunc_of_pileref1_SaidFault_1.ok (k : Nat) (a0 : ByteArray) (r : Int) (h : strings_IndexFunc_of_pileref1_SaidFault_1.f k a0 = some r) : Ct Tryd.prog B 111 [.str a0, .fn 78 []] (ofL []) (.int .i64 r) (ofL []) := by
  refine Ct.of (Y := (fam Tryd.f111 [] [] [] (fun r : Int => .int .i64 r) (fun r => []))) Tryd.func111 rfl Tryd.call111 rfl rfl ?_ r h
  unfold strings_IndexFunc_of_pileref1_SaidFault_1.f
  refine RS.go ?_
  refine RT.call0 rfl (fun _ h => strings_indexFunc_of_pileref1_SaidFault_1.ok k a0 true _ h) (LeL.eq rfl) (fun _ => rfl) (fun r1 => ?_)
  refine RS.go ?_
  exact RT.done rfl rfl (Le.refl _) trivial rfl (dom0 rfl)
/-! ### strings_ContainsFunc_of_pileref1_SaidFault_1: function 77 -/
def strings_ContainsFunc_of_pileref1_SaidFault_1.f (k : Nat) (a0 : ByteArray) : Option (Bool) := ((strings_IndexFunc_of_pileref1_SaidFault_1.f k a0).bind fun r1 => Option.some (decide (r1 ≥ 0)))
theorem strings_ContainsFunc_of_pileref1_SaidFault_1.ok (k : Nat) (a0 : ByteArray) (r : Bool) (h : strings_ContainsFunc_of_pileref1_SaidFault_1.f k a0 = some r) : Ct Tryd.prog B 77 [.str a0, .fn 78 []] (ofL []) (.bool r) (ofL []) := by
  refine Ct.of (Y := (fam Tryd.f77 [] [] [] (fun r : Bool => .bool r) (fun r => []))) Tryd.func77 rfl Tryd.call77 rfl rfl ?_ r h
  unfold strings_ContainsFunc_of_pileref1_SaidFault_1.f
  refine RS.go ?_
  refine RT.call0 rfl (fun _ h => strings_IndexFunc_of_pileref1_SaidFault_1.ok k a0 _ h) (LeL.eq rfl) (fun _ => rfl) (fun r1 => ?_)
  refine RS.go ?_
  exact RT.done rfl rfl (Le.refl _) trivial rfl (dom0 rfl)
/-! ### pileref1_SaidFault: function 27 -/
def pileref1_SaidFault.f (k : Nat) (a0 : ByteArray) : Option (Int) := (if (a0.size : Int) > 500 then Option.some 2 else (if a0 = (⟨#[]⟩ : ByteArray) then Option.some 3 else ((strings_Trim.f a0 str_0).bind fun r1 => (if r1 = (⟨#[]⟩ : ByteArray) then ((strings_ContainsFunc_of_pileref1_SaidFault_1.f k a0).bind fun r2 => (if r2 = true then Option.some 3 else ((strings_Split.f a0 (⟨#[32]⟩ : ByteArray)).bind fun r3 => ((slices_Contains_string_string.f k r3 (⟨#[]⟩ : ByteArray)).bind fun r4 => (if r4 = true then Option.some 3 else Option.some 0))))) else Option.some 3))))
theorem pileref1_SaidFault.ok (k : Nat) (a0 : ByteArray) (r : Int) (h : pileref1_SaidFault.f k a0 = some r) : Ct Tryd.prog B 27 [.str a0] (ofL []) (.int .i64 r) (ofL []) := by
  refine Ct.of (Y := (fam Tryd.f27 [] [] [] (fun r : Int => .int .i64 r) (fun r => []))) Tryd.func27 rfl Tryd.call27 rfl rfl ?_ r h
  unfold pileref1_SaidFault.f
  refine RS.go ?_
  refine RT.br rfl (fun c9 => ?_) (fun c9 => ?_)
  · exact RT.done rfl rfl (Le.refl _) trivial rfl (dom0 rfl)
  · refine RT.br rfl (fun c8 => ?_) (fun c8 => ?_)
    · refine RT.brT rfl ?_
      refine RT.brT rfl ?_
      refine RT.brT rfl ?_
      refine RT.brT rfl ?_
      refine RT.brT rfl ?_
      refine RT.brT rfl ?_
      refine RT.brT rfl ?_
      exact RT.done rfl rfl (Le.refl _) trivial rfl (dom0 rfl)
    · refine RT.brF rfl ?_
      refine RT.call0 rfl (fun _ h => strings_Trim.ok a0 str_0 _ h) (LeL.eq rfl) (fun _ => rfl) (fun r1 => ?_)
      refine RS.go ?_
      refine RT.brF rfl ?_
      refine RT.brF rfl ?_
      refine RT.brN rfl (fun c7 => ?_) (fun c7 => ?_)
      · refine RT.brF rfl ?_
        refine RT.call0 rfl (fun _ h => strings_ContainsFunc_of_pileref1_SaidFault_1.ok k a0 _ h) (LeL.eq rfl) (fun _ => rfl) (fun r2 => ?_)
        refine RS.go ?_
        refine RT.brF rfl ?_
        refine RT.brB rfl (fun c6 => ?_) (fun c6 => ?_)
        · exact RT.done rfl rfl (Le.refl _) trivial rfl (dom0 rfl)
        · refine RT.call0 rfl (fun _ h => strings_Split.ok a0 (⟨#[32]⟩ : ByteArray) _ h) (LeL.eq rfl) (fun _ => rfl) (fun r3 => ?_)
          refine RS.go ?_
          refine RT.call0 rfl (fun _ h => slices_Contains_string_string.ok k r3 (⟨#[]⟩ : ByteArray) _ h) (LeL.eq rfl) (fun _ => rfl) (fun r4 => ?_)
          refine RS.go ?_
          refine RT.brB rfl (fun c5 => ?_) (fun c5 => ?_)
          · exact RT.done rfl rfl (Le.refl _) trivial rfl (dom0 rfl)
          · exact RT.done rfl rfl (Le.refl _) trivial rfl (dom0 rfl)
      · refine RT.brT rfl ?_
        refine RT.brT rfl ?_
        refine RT.brT rfl ?_
        exact RT.done rfl rfl (Le.refl _) trivial rfl (dom0 rfl)
/-! ### pileref1_CodesOf: function 33 -/
def pileref1_CodesOf.l0 : Nat → List ByteArray → Int → Int → List (ByteArray × ByteArray) → Option ((List (ByteArray × ByteArray)))
  | 0, _, _, _, _ => Option.none
  | k + 1, x4, x5, x6, o1 => (if x6 < x5 then (if 0 ≤ x6 then (if x6 < (x4.length : Int) then (if 0 ≤ wrap64 (x6 + 1) then (if wrap64 (x6 + 1) ≤ (str_2.size : Int) then (if 0 ≤ x6 then (if x6 ≤ wrap64 (x6 + 1) then (if o1.length + [(str_2.extract (x6).toNat (wrap64 (x6 + 1)).toNat, (rdE eS x4 x6))].length ≤ 549755813888 then pileref1_CodesOf.l0 k x4 x5 (wrap64 (x6 + 1)) (o1 ++ [(str_2.extract (x6).toNat (wrap64 (x6 + 1)).toNat, (rdE eS x4 x6))]) else Option.none) else Option.none) else Option.none) else Option.none) else Option.none) else Option.none) else Option.none) else Option.some o1)
def pileref1_CodesOf.f (k : Nat) : Option ((List (ByteArray × ByteArray))) := ((strings_Split.f str_1 (⟨#[32]⟩ : ByteArray)).bind fun r1 => pileref1_CodesOf.l0 k r1 (r1.length : Int) 0 [])
theorem pileref1_CodesOf.loops : ∀ k, (∀ (x4 : List ByteArray) (x5 : Int) (x6 : Int) (o1 : List (ByteArray × ByteArray)), RS (fam Tryd.f33 [] [] [] (fun r : (List (ByteArray × ByteArray)) => sq e_SS r) (fun r => [])) (Func.head Tryd.f33 0) ⟨ofT [(1, .osl 1 e_SS.w 0 o1.length o1.length), (4, sq eS x4), (5, .int .i64 x5), (6, .int .i64 x6)], ofL [(1, bufE e_SS o1)]⟩ (pileref1_CodesOf.l0 k x4 x5 x6 o1))
  | 0 => by intro _ _ _ _; simp only [pileref1_CodesOf.l0]; exact RS.none
  | k + 1 => by
    have ih := pileref1_CodesOf.loops k
    · intro x4 x5 x6 o1
      simp only [pileref1_CodesOf.l0]
      refine RS.go ?_
      refine RT.br rfl (fun c9 => ?_) (fun c9 => ?_)
      · refine RT.br rfl (fun c2 => ?_) (fun c2 => RT.none)
        refine RT.br rfl (fun c3 => ?_) (fun c3 => RT.none)
        refine RT.br rfl (fun c4 => ?_) (fun c4 => RT.none)
        refine RT.br rfl (fun c5 => ?_) (fun c5 => RT.none)
        refine RT.br rfl (fun c6 => ?_) (fun c6 => RT.none)
        refine RT.br rfl (fun c7 => ?_) (fun c7 => RT.none)
        refine RT.goto rfl ?_
        refine RS.slot 18 (sq e_SS [(str_2.extract (x6).toNat (wrap64 (x6 + 1)).toNat, (rdE eS x4 x6))]) (Le.lit (E := e_SS) (l := [(str_2.extract (x6).toNat (wrap64 (x6 + 1)).toNat, (rdE eS x4 x6))]) (cells_of rfl)) ?_
        refine RS.go ?_
        refine RT.req rfl ⟨by first | rfl | simp, by first | exact Nat.le_refl _ | simp⟩ ?_
        refine RT.not rfl (by simp <;> omega) ?_
        refine RT.br rfl (fun c8 => ?_) (fun _ => RT.none)
        refine RT.goto rfl ?_
        refine RS.obj 1 (bufE e_SS (o1 ++ [(str_2.extract (x6).toNat (wrap64 (x6 + 1)).toNat, (rdE eS x4 x6))])) ⟨_, rfl, LeO.app (l := o1) (m := [(str_2.extract (x6).toNat (wrap64 (x6 + 1)).toNat, (rdE eS x4 x6))]) fun _ _ _ _ => rfl⟩ ?_
        refine RS.slot 19 (.osl 1 e_SS.w 0 (o1 ++ [(str_2.extract (x6).toNat (wrap64 (x6 + 1)).toNat, (rdE eS x4 x6))]).length (o1 ++ [(str_2.extract (x6).toNat (wrap64 (x6 + 1)).toNat, (rdE eS x4 x6))]).length) (Le.oslN rfl (by simp)) ?_
        refine RS.go ?_
        refine RT.goto rfl ?_
        refine RS.weak [(1, .osl 1 e_SS.w 0 (o1 ++ [(str_2.extract (x6).toNat (wrap64 (x6 + 1)).toNat, (rdE eS x4 x6))]).length (o1 ++ [(str_2.extract (x6).toNat (wrap64 (x6 + 1)).toNat, (rdE eS x4 x6))]).length), (4, sq eS x4), (5, .int .i64 x5), (6, .int .i64 (wrap64 (x6 + 1)))] [(1, bufE e_SS (o1 ++ [(str_2.extract (x6).toNat (wrap64 (x6 + 1)).toNat, (rdE eS x4 x6))]))] ⟨Le.oslN rfl (by first | rfl | simp), Le.eq (by first | rfl | simp), Le.eq (by first | rfl | simp), Le.eq (by first | rfl | simp), trivial⟩ ⟨⟨_, rfl, LeO.refl _⟩, trivial⟩ rfl (dom0 rfl) ?_
        exact ih x4 x5 (wrap64 (x6 + 1)) (o1 ++ [(str_2.extract (x6).toNat (wrap64 (x6 + 1)).toNat, (rdE eS x4 x6))]) 
      · refine RT.freeze 1 _ _ _ [(0, sq e_SS o1)] [] rfl rfl ⟨.inr ⟨_, rfl, by first | exact Nat.le_refl _ | simp, rfl⟩, trivial⟩ trivial rfl (dom0 rfl) ?_
        exact RT.done rfl rfl (Le.refl _) trivial rfl (dom0 rfl)
theorem pileref1_CodesOf.ok (k : Nat) (r : (List (ByteArray × ByteArray))) (h : pileref1_CodesOf.f k  = some r) : Ct Tryd.prog B 33 [] (ofL []) (sq e_SS r) (ofL []) := by
  refine Ct.of (Y := (fam Tryd.f33 [] [] [] (fun r : (List (ByteArray × ByteArray)) => sq e_SS r) (fun r => []))) Tryd.func33 rfl Tryd.call33 rfl rfl ?_ r h
  unfold pileref1_CodesOf.f
  refine RS.go ?_
  refine RT.call0 rfl (fun _ h => strings_Split.ok str_1 (⟨#[32]⟩ : ByteArray) _ h) (LeL.eq rfl) (fun _ => rfl) (fun r1 => ?_)
  refine RS.go ?_
  refine RT.goto rfl ?_
  refine RS.ghost 1 1 e_SS.w (rep e_SS []) rfl rfl ?_
  refine RS.weak [(1, .osl 1 e_SS.w 0 ([] : List (ByteArray × ByteArray)).length ([] : List (ByteArray × ByteArray)).length), (4, sq eS r1), (5, .int .i64 (r1.length : Int)), (6, .int .i64 0)] [(1, bufE e_SS ([] : List (ByteArray × ByteArray)))] ⟨Le.oslN rfl (by first | rfl | simp), Le.eq (by first | rfl | simp), Le.eq (by first | rfl | simp), Le.eq (by first | rfl | simp), trivial⟩ ⟨⟨_, rfl, LeO.refl _⟩, trivial⟩ rfl (dom0 rfl) ?_
  exact pileref1_CodesOf.loops k r1 (r1.length : Int) 0 [] 
def strings_IndexByte.f (a0 : ByteArray) (a1 : Int) : Option (Int) := some (Lib.indexByte a0.data.toList a1.toNat.toUInt8)
theorem strings_IndexByte.ok (a0 : ByteArray) (a1 : Int) (r : Int) (h : strings_IndexByte.f a0 a1 = some r) : Ct Tryd.prog B 94 [.str a0, .int .u8 a1] (ofL []) (.int .i64 r) (ofL []) := by
  unfold strings_IndexByte.f at h
  cases h
  refine Ct.lib Tryd.call94 rfl rfl fun g w hb => (Tryd.strings_IndexByte a0 a1 w).mono fun e w' ⟨he, hw⟩ => ⟨he, hw ▸ Below.refl _ _⟩

/-! ### pileref1_codeOf: function 81 -/
def pileref1_codeOf.f (k : Nat) (a0 : Int) : Option (ByteArray) := ((pileref1_CodesOf.f k ).bind fun r1 => ((strings_IndexByte.f str_2 a0).bind fun r2 => (if 0 ≤ r2 then (if r2 < (r1.length : Int) then Option.some ((rdE e_SS r1 r2).2) else Option.none) else Option.none)))
theorem pileref1_codeOf.ok (k : Nat) (a0 : Int) (r : ByteArray) (h : pileref1_codeOf.f k a0 = some r) : Ct Tryd.prog B 81 [.int .u8 a0] (ofL []) (.str r) (ofL []) := by
  refine Ct.of (Y := (fam Tryd.f81 [] [] [] (fun r : ByteArray => .str r) (fun r => []))) Tryd.func81 rfl Tryd.call81 rfl rfl ?_ r h
  unfold pileref1_codeOf.f
  refine RS.go ?_
  refine RT.call0 rfl (fun _ h => pileref1_CodesOf.ok k  _ h) (LeL.eq rfl) (fun _ => rfl) (fun r1 => ?_)
  refine RS.go ?_
  refine RT.call0 rfl (fun _ h => strings_IndexByte.ok str_2 a0 _ h) (LeL.eq rfl) (fun _ => rfl) (fun r2 => ?_)
  refine RS.go ?_
  refine RT.br rfl (fun c3 => ?_) (fun c3 => RT.none)
  refine RT.br rfl (fun c4 => ?_) (fun c4 => RT.none)
  exact RT.done rfl rfl (Le.refl _) trivial rfl (dom0 rfl)
/-! ### pileref1_CodedOf: function 37 -/
mutual
def pileref1_CodedOf.l1 : Nat → List ByteArray → Int → Int → List ByteArray → Int → List ByteArray → Option (ByteArray)
  | 0, _, _, _, _, _, _ => Option.none
  | k + 1, x9, x10, x11, o3, x17b, o6b => (if x17b < ((rdE eS x9 x11).size : Int) then (if 0 ≤ x17b then (if x17b < ((rdE eS x9 x11).size : Int) then ((pileref1_codeOf.f k (bt (rdE eS x9 x11) x17b)).bind fun r6 => (if o6b.length + 1 ≤ 549755813888 then pileref1_CodedOf.l1 k x9 x10 x11 o3 (wrap64 (x17b + 1)) (o6b ++ [r6]) else Option.none)) else Option.none) else Option.none) else ((strings_Join.f o6b (⟨#[32]⟩ : ByteArray)).bind fun r8 => (if o3.length + 1 ≤ 549755813888 then pileref1_CodedOf.l0 k x9 x10 (wrap64 (x11 + 1)) (o3 ++ [r8]) else Option.none)))
def pileref1_CodedOf.l0 : Nat → List ByteArray → Int → Int → List ByteArray → Option (ByteArray)
  | 0, _, _, _, _ => Option.none
  | k + 1, x9, x10, x11, o3 => (if x11 < x10 then (if 0 ≤ x11 then (if x11 < (x9.length : Int) then pileref1_CodedOf.l1 k x9 x10 x11 o3 0 [] else Option.none) else Option.none) else ((strings_Join.f o3 (⟨#[32, 47, 32]⟩ : ByteArray)).bind fun r11 => Option.some r11))
end
def pileref1_CodedOf.f (k : Nat) (a0 : ByteArray) : Option (ByteArray) := ((strings_Split.f a0 (⟨#[32]⟩ : ByteArray)).bind fun r1 => pileref1_CodedOf.l0 k r1 (r1.length : Int) 0 [])
theorem pileref1_CodedOf.loops : ∀ k, (∀ (x9 : List ByteArray) (x10 : Int) (x11 : Int) (o3 : List ByteArray) (x17b : Int) (o6b : List ByteArray), RS (fam Tryd.f37 [11, 13] [] [] (fun r : ByteArray => .str r) (fun r => [])) (Func.head Tryd.f37 1) ⟨ofT [(3, .osl 3 eS.w 0 o3.length o3.length), (5, .str (rdE eS x9 x11)), (6, .osl 6 eS.w 0 o6b.length o6b.length), (9, sq eS x9), (10, .int .i64 x10), (11, .int .i64 x11), (16, .int .i64 ((rdE eS x9 x11).size : Int)), (17, .int .i64 x17b)], ofL [(3, bufE eS o3), (6, bufE eS o6b)]⟩ (pileref1_CodedOf.l1 k x9 x10 x11 o3 x17b o6b)) ∧ (∀ (x9 : List ByteArray) (x10 : Int) (x11 : Int) (o3 : List ByteArray), RS (fam Tryd.f37 [11, 13] [] [] (fun r : ByteArray => .str r) (fun r => [])) (Func.head Tryd.f37 0) ⟨ofT [(3, .osl 3 eS.w 0 o3.length o3.length), (9, sq eS x9), (10, .int .i64 x10), (11, .int .i64 x11)], ofL [(3, bufE eS o3)]⟩ (pileref1_CodedOf.l0 k x9 x10 x11 o3))
  | 0 => ⟨by intro _ _ _ _ _ _; simp only [pileref1_CodedOf.l1]; exact RS.none, by intro _ _ _ _; simp only [pileref1_CodedOf.l0]; exact RS.none⟩
  | k + 1 => by
    have ih := pileref1_CodedOf.loops k
    refine ⟨?_, ?_⟩
    · intro x9 x10 x11 o3 x17b o6b
      simp only [pileref1_CodedOf.l1]
      refine RS.go ?_
      refine RT.br rfl (fun c10 => ?_) (fun c10 => ?_)
      · refine RT.br rfl (fun c4 => ?_) (fun c4 => RT.none)
        refine RT.br rfl (fun c5 => ?_) (fun c5 => RT.none)
        refine RT.call0 rfl (fun _ h => pileref1_codeOf.ok k (bt (rdE eS x9 x11) x17b) _ h) (LeL.eq rfl) (fun _ => rfl) (fun r6 => ?_)
        refine RS.go ?_
        refine RT.goto rfl ?_
        refine RS.slot 25 (sq eS [r6]) (Le.lit (E := eS) (l := [r6]) (cells_of rfl)) ?_
        refine RS.go ?_
        refine RT.req rfl ⟨by first | rfl | simp, by first | exact Nat.le_refl _ | simp⟩ ?_
        refine RT.not rfl (by simp <;> omega) ?_
        refine RT.br rfl (fun c7 => ?_) (fun _ => RT.none)
        refine RT.goto rfl ?_
        refine RS.obj 6 (bufE eS (o6b ++ [r6])) ⟨_, rfl, LeO.app (l := o6b) (m := [r6]) fun _ _ _ _ => rfl⟩ ?_
        refine RS.slot 26 (.osl 6 eS.w 0 (o6b ++ [r6]).length (o6b ++ [r6]).length) (Le.oslN rfl (by simp)) ?_
        refine RS.go ?_
        refine RT.goto rfl ?_
        refine RS.weak [(3, .osl 3 eS.w 0 o3.length o3.length), (5, .str (rdE eS x9 x11)), (6, .osl 6 eS.w 0 (o6b ++ [r6]).length (o6b ++ [r6]).length), (9, sq eS x9), (10, .int .i64 x10), (11, .int .i64 x11), (16, .int .i64 ((rdE eS x9 x11).size : Int)), (17, .int .i64 (wrap64 (x17b + 1)))] [(3, bufE eS o3), (6, bufE eS (o6b ++ [r6]))] ⟨Le.oslN rfl (by first | rfl | simp), Le.eq (by first | rfl | simp), Le.oslN rfl (by first | rfl | simp), Le.eq (by first | rfl | simp), Le.eq (by first | rfl | simp), Le.eq (by first | rfl | simp), Le.eq (by first | rfl | simp), Le.eq (by first | rfl | simp), trivial⟩ ⟨⟨_, rfl, LeO.refl _⟩, ⟨_, rfl, LeO.refl _⟩, trivial⟩ rfl (dom0 rfl) ?_
        exact ih.1 x9 x10 x11 o3 (wrap64 (x17b + 1)) (o6b ++ [r6]) 
      · refine RT.goto rfl ?_
        refine RS.freeze 6 _ _ _ [(3, .osl 3 eS.w 0 o3.length o3.length), (6, sq eS o6b), (9, sq eS x9), (10, .int .i64 x10), (11, .int .i64 x11)] [(3, bufE eS o3)] rfl ⟨.inl (Le.refl _), .inr ⟨_, rfl, by first | exact Nat.le_refl _ | simp, rfl⟩, .inl (Le.refl _), .inl (Le.refl _), .inl (Le.refl _), trivial⟩ ⟨⟨_, rfl, LeO.refl _⟩, trivial⟩ rfl (dom0 rfl) ?_
        refine RS.region ?_
        refine RS.go ?_
        refine RT.call0 rfl (fun _ h => strings_Join.ok o6b (⟨#[32]⟩ : ByteArray) _ h) (LeL.eq rfl) (fun _ => rfl) (fun r8 => ?_)
        refine RS.go ?_
        refine RT.goto rfl ?_
        refine RS.slot 31 (sq eS [r8]) (Le.lit (E := eS) (l := [r8]) (cells_of rfl)) ?_
        refine RS.go ?_
        refine RT.req rfl ⟨by first | rfl | simp, by first | exact Nat.le_refl _ | simp⟩ ?_
        refine RT.not rfl (by simp <;> omega) ?_
        refine RT.br rfl (fun c9 => ?_) (fun _ => RT.none)
        refine RT.goto rfl ?_
        refine RS.obj 3 (bufE eS (o3 ++ [r8])) ⟨_, rfl, LeO.app (l := o3) (m := [r8]) fun _ _ _ _ => rfl⟩ ?_
        refine RS.slot 32 (.osl 3 eS.w 0 (o3 ++ [r8]).length (o3 ++ [r8]).length) (Le.oslN rfl (by simp)) ?_
        refine RS.go ?_
        refine RT.goto rfl ?_
        refine RS.weak [(3, .osl 3 eS.w 0 (o3 ++ [r8]).length (o3 ++ [r8]).length), (9, sq eS x9), (10, .int .i64 x10), (11, .int .i64 (wrap64 (x11 + 1)))] [(3, bufE eS (o3 ++ [r8]))] ⟨Le.oslN rfl (by first | rfl | simp), Le.eq (by first | rfl | simp), Le.eq (by first | rfl | simp), Le.eq (by first | rfl | simp), trivial⟩ ⟨⟨_, rfl, LeO.refl _⟩, trivial⟩ rfl (dom0 rfl) ?_
        exact ih.2 x9 x10 (wrap64 (x11 + 1)) (o3 ++ [r8]) 
    · intro x9 x10 x11 o3
      simp only [pileref1_CodedOf.l0]
      refine RS.go ?_
      refine RT.br rfl (fun c12 => ?_) (fun c12 => ?_)
      · refine RT.br rfl (fun c2 => ?_) (fun c2 => RT.none)
        refine RT.br rfl (fun c3 => ?_) (fun c3 => RT.none)
        refine RT.goto rfl ?_
        refine RS.ghost 6 6 eS.w (rep eS []) rfl rfl ?_
        refine RS.weak [(3, .osl 3 eS.w 0 o3.length o3.length), (5, .str (rdE eS x9 x11)), (6, .osl 6 eS.w 0 ([] : List ByteArray).length ([] : List ByteArray).length), (9, sq eS x9), (10, .int .i64 x10), (11, .int .i64 x11), (16, .int .i64 ((rdE eS x9 x11).size : Int)), (17, .int .i64 0)] [(3, bufE eS o3), (6, bufE eS ([] : List ByteArray))] ⟨Le.oslN rfl (by first | rfl | simp), Le.eq (by first | rfl | simp), Le.oslN rfl (by first | rfl | simp), Le.eq (by first | rfl | simp), Le.eq (by first | rfl | simp), Le.eq (by first | rfl | simp), Le.eq (by first | rfl | simp), Le.eq (by first | rfl | simp), trivial⟩ ⟨⟨_, rfl, LeO.refl _⟩, ⟨_, rfl, LeO.refl _⟩, trivial⟩ rfl (dom0 rfl) ?_
        exact ih.1 x9 x10 x11 o3 0 [] 
      · refine RT.goto rfl ?_
        refine RS.freeze 3 _ _ _ [(3, sq eS o3)] [] rfl ⟨.inr ⟨_, rfl, by first | exact Nat.le_refl _ | simp, rfl⟩, trivial⟩ trivial rfl (dom0 rfl) ?_
        refine RS.region ?_
        refine RS.go ?_
        refine RT.call0 rfl (fun _ h => strings_Join.ok o3 (⟨#[32, 47, 32]⟩ : ByteArray) _ h) (LeL.eq rfl) (fun _ => rfl) (fun r11 => ?_)
        refine RS.go ?_
        exact RT.done rfl rfl (Le.refl _) trivial rfl (dom0 rfl)
theorem pileref1_CodedOf.ok (k : Nat) (a0 : ByteArray) (r : ByteArray) (h : pileref1_CodedOf.f k a0 = some r) : Ct Tryd.prog B 37 [.str a0] (ofL []) (.str r) (ofL []) := by
  refine Ct.of (Y := (fam Tryd.f37 [11, 13] [] [] (fun r : ByteArray => .str r) (fun r => []))) Tryd.func37 rfl Tryd.call37 rfl rfl ?_ r h
  unfold pileref1_CodedOf.f
  refine RS.go ?_
  refine RT.call0 rfl (fun _ h => strings_Split.ok a0 (⟨#[32]⟩ : ByteArray) _ h) (LeL.eq rfl) (fun _ => rfl) (fun r1 => ?_)
  refine RS.go ?_
  refine RT.goto rfl ?_
  refine RS.ghost 3 3 eS.w (rep eS []) rfl rfl ?_
  refine RS.weak [(3, .osl 3 eS.w 0 ([] : List ByteArray).length ([] : List ByteArray).length), (9, sq eS r1), (10, .int .i64 (r1.length : Int)), (11, .int .i64 0)] [(3, bufE eS ([] : List ByteArray))] ⟨Le.oslN rfl (by first | rfl | simp), Le.eq (by first | rfl | simp), Le.eq (by first | rfl | simp), Le.eq (by first | rfl | simp), trivial⟩ ⟨⟨_, rfl, LeO.refl _⟩, trivial⟩ rfl (dom0 rfl) ?_
  exact (pileref1_CodedOf.loops k).2 r1 (r1.length : Int) 0 [] 
/-! ### pilemake_Stream_Pick: function 10 -/
def pilemake_Stream_Pick.f (k : Nat) (p0_0 : List Int) (p0_1 : Int) (l1 : List Int) : Option (Int × (List Int) × Int) := ((pilemake_Stream_Next.f k p0_0 p0_1 (l1.length : Int)).bind fun r1 => (if 0 ≤ r1.1 then (if r1.1 < (l1.length : Int) then Option.some ((rd l1 r1.1), r1.2.1, r1.2.2) else Option.none) else Option.none))
theorem pilemake_Stream_Pick.ok (k : Nat) (p0_0 : List Int) (p0_1 : Int) (l1 : List Int) (r : Int × (List Int) × Int) (h : pilemake_Stream_Pick.f k p0_0 p0_1 l1 = some r) : Ct Tryd.prog B 10 [.ref 100000 0 0 0 2, sq eI l1] (ofL [(100000, .box [sq eI p0_0, .int .i64 p0_1])]) (.int .i64 r.1) (ofL [(100000, .box [sq eI r.2.1, .int .i64 r.2.2])]) := by
  refine Ct.of (Y := (fam Tryd.f10 [] [] [(100000, .box [sq eI p0_0, .int .i64 p0_1])] (fun r : Int × (List Int) × Int => .int .i64 r.1) (fun r => [(100000, .box [sq eI r.2.1, .int .i64 r.2.2])]))) Tryd.func10 rfl Tryd.call10 rfl rfl ?_ r h
  unfold pilemake_Stream_Pick.f
  refine RS.go ?_
  refine RT.call rfl (fun _ h => pilemake_Stream_Next.ok k p0_0 p0_1 (l1.length : Int) _ h) (fun i => bif Nat.beq i 100000 then 100000 else i) (LeL.eq rfl) ⟨⟨_, rfl, LeO.refl _⟩, trivial⟩ (fun _ => rfl) (fun r1 => ?_)
  refine RS.go ?_
  refine RT.br rfl (fun c2 => ?_) (fun c2 => RT.none)
  refine RT.br rfl (fun c3 => ?_) (fun c3 => RT.none)
  exact RT.done rfl rfl (Le.refl _) ⟨⟨_, rfl, LeO.refl _⟩, trivial⟩ rfl (dom_of rfl)
/-! ### pilemake_Stream_CodeString: function 30 -/
mutual
def pilemake_Stream_CodeString.l0 : Nat → ByteArray → Int → Int → List Int → Int → Option (ByteArray × (List Int) × Int)
  | 0, _, _, _, _, _ => Option.none
  | k + 1, x3, x14, x15, o100000_0, o100000_1 => (if x15 < x14 then ((pilemake_Stream_Changed.f k o100000_0 o100000_1 x3 (⟨#[46, 45, 32, 47, 46, 45]⟩ : ByteArray)).bind fun r5 => pilemake_Stream_CodeString.l0 k r5.1 x14 (wrap64 (x15 + 1)) r5.2.1 r5.2.2) else Option.some (x3, o100000_0, o100000_1))
def pilemake_Stream_CodeString.j5 : Nat → ByteArray → List Int → Int → Option (ByteArray × (List Int) × Int)
  | 0, _, _, _ => Option.none
  | k + 1, x3j5, o100000_0j5, o100000_1j5 => ((pilemake_Stream_Pick.f k o100000_0j5 o100000_1j5 [0, 1, 1, 2]).bind fun r4 => pilemake_Stream_CodeString.l0 k x3j5 r4.1 0 r4.2.1 r4.2.2)
end
def pilemake_Stream_CodeString.f (k : Nat) (p0_0 : List Int) (p0_1 : Int) : Option (ByteArray × (List Int) × Int) := ((pilemake_Stream_Saying.f k p0_0 p0_1).bind fun r1 => ((pileref1_SaidFault.f k r1.1).bind fun r2 => (if r2 = 0 then ((pileref1_CodedOf.f k r1.1).bind fun r3 => pilemake_Stream_CodeString.j5 k r3 r1.2.1 r1.2.2) else pilemake_Stream_CodeString.j5 k (⟨#[46, 45]⟩ : ByteArray) r1.2.1 r1.2.2)))
theorem pilemake_Stream_CodeString.loops (p0_0 : List Int) (p0_1 : Int) : ∀ k, (∀ (x3 : ByteArray) (x14 : Int) (x15 : Int) (o100000_0 : List Int) (o100000_1 : Int), RS (fam Tryd.f30 [5] [] [(100000, .box [sq eI p0_0, .int .i64 p0_1])] (fun r : ByteArray × (List Int) × Int => .str r.1) (fun r => [(100000, .box [sq eI r.2.1, .int .i64 r.2.2])])) (Func.head Tryd.f30 0) ⟨ofT [(0, .ref 100000 0 0 0 2), (3, .str x3), (14, .int .i64 x14), (15, .int .i64 x15)], ofL [(100000, .box [sq eI o100000_0, .int .i64 o100000_1])]⟩ (pilemake_Stream_CodeString.l0 k x3 x14 x15 o100000_0 o100000_1)) ∧ (∀ (x3j5 : ByteArray) (o100000_0j5 : List Int) (o100000_1j5 : Int), RS (fam Tryd.f30 [5] [] [(100000, .box [sq eI p0_0, .int .i64 p0_1])] (fun r : ByteArray × (List Int) × Int => .str r.1) (fun r => [(100000, .box [sq eI r.2.1, .int .i64 r.2.2])])) (Func.reg Tryd.f30 5) ⟨ofT [(0, .ref 100000 0 0 0 2), (3, .str x3j5)], ofL [(100000, .box [sq eI o100000_0j5, .int .i64 o100000_1j5])]⟩ (pilemake_Stream_CodeString.j5 k x3j5 o100000_0j5 o100000_1j5))
  | 0 => ⟨by intro _ _ _ _ _; simp only [pilemake_Stream_CodeString.l0]; exact RS.none, by intro _ _ _; simp only [pilemake_Stream_CodeString.j5]; exact RS.none⟩
  | k + 1 => by
    have ih := pilemake_Stream_CodeString.loops p0_0 p0_1 k
    refine ⟨?_, ?_⟩
    · intro x3 x14 x15 o100000_0 o100000_1
      simp only [pilemake_Stream_CodeString.l0]
      refine RS.go ?_
      refine RT.br rfl (fun c6 => ?_) (fun c6 => ?_)
      · refine RT.call rfl (fun _ h => pilemake_Stream_Changed.ok k o100000_0 o100000_1 x3 (⟨#[46, 45, 32, 47, 46, 45]⟩ : ByteArray) _ h) (fun i => bif Nat.beq i 100000 then 100000 else i) (LeL.eq rfl) ⟨⟨_, rfl, LeO.refl _⟩, trivial⟩ (fun _ => rfl) (fun r5 => ?_)
        refine RS.go ?_
        refine RT.goto rfl ?_
        refine RS.weak [(0, .ref 100000 0 0 0 2), (3, .str r5.1), (14, .int .i64 x14), (15, .int .i64 (wrap64 (x15 + 1)))] [(100000, .box [sq eI r5.2.1, .int .i64 r5.2.2])] ⟨Le.eq (by first | rfl | simp), Le.eq (by first | rfl | simp), Le.eq (by first | rfl | simp), Le.eq (by first | rfl | simp), trivial⟩ ⟨⟨_, rfl, LeO.refl _⟩, trivial⟩ rfl (dom_of rfl) ?_
        exact ih.1 r5.1 x14 (wrap64 (x15 + 1)) r5.2.1 r5.2.2 
      · exact RT.done rfl rfl (Le.refl _) ⟨⟨_, rfl, LeO.refl _⟩, trivial⟩ rfl (dom_of rfl)
    · intro x3j5 o100000_0j5 o100000_1j5
      simp only [pilemake_Stream_CodeString.j5]
      refine RS.region ?_
      refine RS.go ?_
      refine RT.goto rfl ?_
      refine RS.slot 13 (sq eI [0, 1, 1, 2]) (Le.lit (E := eI) (l := [0, 1, 1, 2]) (cells_of rfl)) ?_
      refine RS.go ?_
      refine RT.call rfl (fun _ h => pilemake_Stream_Pick.ok k o100000_0j5 o100000_1j5 [0, 1, 1, 2] _ h) (fun i => bif Nat.beq i 100000 then 100000 else i) (LeL.eq rfl) ⟨⟨_, rfl, LeO.refl _⟩, trivial⟩ (fun _ => rfl) (fun r4 => ?_)
      refine RS.go ?_
      refine RT.goto rfl ?_
      refine RS.weak [(0, .ref 100000 0 0 0 2), (3, .str x3j5), (14, .int .i64 r4.1), (15, .int .i64 0)] [(100000, .box [sq eI r4.2.1, .int .i64 r4.2.2])] ⟨Le.eq (by first | rfl | simp), Le.eq (by first | rfl | simp), Le.eq (by first | rfl | simp), Le.eq (by first | rfl | simp), trivial⟩ ⟨⟨_, rfl, LeO.refl _⟩, trivial⟩ rfl (dom_of rfl) ?_
      exact ih.1 x3j5 r4.1 0 r4.2.1 r4.2.2 
theorem pilemake_Stream_CodeString.ok (k : Nat) (p0_0 : List Int) (p0_1 : Int) (r : ByteArray × (List Int) × Int) (h : pilemake_Stream_CodeString.f k p0_0 p0_1 = some r) : Ct Tryd.prog B 30 [.ref 100000 0 0 0 2] (ofL [(100000, .box [sq eI p0_0, .int .i64 p0_1])]) (.str r.1) (ofL [(100000, .box [sq eI r.2.1, .int .i64 r.2.2])]) := by
  refine Ct.of (Y := (fam Tryd.f30 [5] [] [(100000, .box [sq eI p0_0, .int .i64 p0_1])] (fun r : ByteArray × (List Int) × Int => .str r.1) (fun r => [(100000, .box [sq eI r.2.1, .int .i64 r.2.2])]))) Tryd.func30 rfl Tryd.call30 rfl rfl ?_ r h
  unfold pilemake_Stream_CodeString.f
  refine RS.go ?_
  refine RT.call rfl (fun _ h => pilemake_Stream_Saying.ok k p0_0 p0_1 _ h) (fun i => bif Nat.beq i 100000 then 100000 else i) (LeL.eq rfl) ⟨⟨_, rfl, LeO.refl _⟩, trivial⟩ (fun _ => rfl) (fun r1 => ?_)
  refine RS.go ?_
  refine RT.call0 rfl (fun _ h => pileref1_SaidFault.ok k r1.1 _ h) (LeL.eq rfl) (fun _ => rfl) (fun r2 => ?_)
  refine RS.go ?_
  refine RT.br rfl (fun c7 => ?_) (fun c7 => ?_)
  · refine RT.call0 rfl (fun _ h => pileref1_CodedOf.ok k r1.1 _ h) (LeL.eq rfl) (fun _ => rfl) (fun r3 => ?_)
    refine RS.go ?_
    refine RT.goto rfl ?_
    refine RS.weak [(0, .ref 100000 0 0 0 2), (3, .str r3)] [(100000, .box [sq eI r1.2.1, .int .i64 r1.2.2])] ⟨Le.eq (by first | rfl | simp), Le.eq (by first | rfl | simp), trivial⟩ ⟨⟨_, rfl, LeO.refl _⟩, trivial⟩ rfl (dom_of rfl) ?_
    exact (pilemake_Stream_CodeString.loops p0_0 p0_1 k).2 r3 r1.2.1 r1.2.2 
  · refine RT.goto rfl ?_
    refine RS.weak [(0, .ref 100000 0 0 0 2), (3, .str (⟨#[46, 45]⟩ : ByteArray))] [(100000, .box [sq eI r1.2.1, .int .i64 r1.2.2])] ⟨Le.eq (by first | rfl | simp), Le.eq (by first | rfl | simp), trivial⟩ ⟨⟨_, rfl, LeO.refl _⟩, trivial⟩ rfl (dom_of rfl) ?_
    exact (pilemake_Stream_CodeString.loops p0_0 p0_1 k).2 (⟨#[46, 45]⟩ : ByteArray) r1.2.1 r1.2.2 
def strings_Fields.f (a0 : ByteArray) : Option (List ByteArray) := if a0.size < 4294967281 ∧ asciiT a0 = true then some ((Lib.fields a0.data.toList).map fun l => ⟨l.toArray⟩) else none
theorem strings_Fields.ok (a0 : ByteArray) (r : List ByteArray) (h : strings_Fields.f a0 = some r) : Ct Tryd.prog B 82 [.str a0] (ofL []) (sq eS r) (ofL []) := by
  unfold strings_Fields.f at h
  split at h
  case isFalse => cases h
  case isTrue c =>
  cases h
  refine Ct.libS Tryd.call82 rfl fun g w hb => ?_
  refine (Tryd.strings_Fields a0 w c.1 (asciiT_at c.2) (hbAsc hb)).mono fun e w' ⟨he, hw⟩ => ⟨_, he, ?_⟩
  subst hw
  have key : ∀ T, NewSl eS ((Lib.fields a0.data.toList).map fun l => (⟨l.toArray⟩ : ByteArray)) w (.slice (some ⟨w.heap.size, 0, none⟩) (Lib.fields a0.data.toList).length (Lib.fields a0.data.toList).length) (w.alloc (.cells ((Lib.fields a0.data.toList).map fun l => Value.string ⟨l.toArray⟩).toArray T)) := fun T => by
    have := newS (w := w) (T := T) (l := (Lib.fields a0.data.toList).map fun l => (⟨l.toArray⟩ : ByteArray)) (n := (Lib.fields a0.data.toList).length) (by simp)
    rwa [List.map_map] at this
  exact key _

/-! ### key_Codes: function 32 -/
def key_Codes.k0 : List DK := [⟨[23], [], [2], []⟩, ⟨[11, 22], [23, 2], [23], [2]⟩, ⟨[21], [22], [22], []⟩, ⟨[15, 20], [], [21], []⟩, ⟨[19], [], [20], []⟩, ⟨[16, 18], [], [19], []⟩, ⟨[17], [], [18], []⟩, ⟨[3], [], [17], []⟩, ⟨[1], [], [16], []⟩, ⟨[14], [], [15], []⟩, ⟨[12, 13], [], [14], []⟩, ⟨[3], [], [13], []⟩, ⟨[1], [], [12], []⟩, ⟨[2], [], [11], []⟩]
def key_Codes.k1 : List Nat := [0, 0, 0, 6, 14, 0, 0, 64, 224, 480, 1022, 2046, 4095, 8191]
def key_Codes.l0 : Nat → List ByteArray → Int → List (ByteArray × ByteArray) → Option ((List (ByteArray × ByteArray)))
  | 0, _, _, _ => Option.none
  | k + 1, x1, x3, o2 => (if x3 < (x1.length : Int) then (if 0 ≤ x3 then (if x3 < (x1.length : Int) then (if 0 ≤ wrap64 (x3 + 1) then (if wrap64 (x3 + 1) < (x1.length : Int) then (if o2.length + [((rdE eS x1 x3), (rdE eS x1 (wrap64 (x3 + 1))))].length ≤ 549755813888 then key_Codes.l0 k x1 (wrap64 (x3 + 2)) (o2 ++ [((rdE eS x1 x3), (rdE eS x1 (wrap64 (x3 + 1))))]) else Option.none) else Option.none) else Option.none) else Option.none) else Option.none) else Option.some o2)
def key_Codes.f (k : Nat) : Option ((List (ByteArray × ByteArray))) := ((strings_Fields.f str_3).bind fun r1 => key_Codes.l0 k r1 0 [])
theorem key_Codes.loops : ∀ k, (∀ (x1 : List ByteArray) (x3 : Int) (o2 : List (ByteArray × ByteArray)), RS (fam Tryd.f32 [] [] [] (fun r : (List (ByteArray × ByteArray)) => sq e_SS r) (fun r => [])) (Func.head Tryd.f32 0) ⟨ofT [(1, sq eS x1), (2, .osl 2 e_SS.w 0 o2.length o2.length), (3, .int .i64 x3)], ofL [(2, bufE e_SS o2)]⟩ (key_Codes.l0 k x1 x3 o2))
  | 0 => by intro _ _ _; simp only [key_Codes.l0]; exact RS.none
  | k + 1 => by
    have ih := key_Codes.loops k
    · intro x1 x3 o2
      simp only [key_Codes.l0]
      refine RS.go ?_
      refine RT.br rfl (fun c7 => ?_) (fun c7 => ?_)
      · refine RT.goto rfl ?_
        refine RS.draw rfl ?_
        refine RD.br rfl (fun c2 => ?_) (fun c2 => RD.none)
        refine RD.br rfl (fun c3 => ?_) (fun c3 => RD.none)
        refine RD.br rfl (fun c4 => ?_) (fun c4 => RD.none)
        refine RD.br rfl (fun c5 => ?_) (fun c5 => RD.none)
        refine RD.req rfl ⟨by first | rfl | simp, by first | exact Nat.le_refl _ | simp⟩ ?_
        refine RD.not rfl (by simp <;> omega) ?_
        refine RD.br rfl (fun c6 => ?_) (fun _ => RD.none)
        refine RD.fin key_Codes.k0 key_Codes.k1 rfl rfl (by decide +kernel) ?_
        refine RS.obj 2 (bufE e_SS (o2 ++ [((rdE eS x1 x3), (rdE eS x1 (wrap64 (x3 + 1))))])) ⟨_, rfl, LeO.app (l := o2) (m := [((rdE eS x1 x3), (rdE eS x1 (wrap64 (x3 + 1))))]) (cells_of rfl)⟩ ?_
        refine RS.slot 2 (.osl 2 e_SS.w 0 (o2 ++ [((rdE eS x1 x3), (rdE eS x1 (wrap64 (x3 + 1))))]).length (o2 ++ [((rdE eS x1 x3), (rdE eS x1 (wrap64 (x3 + 1))))]).length) (Le.oslN rfl (by simp)) ?_
        refine RS.slot 23 (.osl 2 e_SS.w 0 (o2 ++ [((rdE eS x1 x3), (rdE eS x1 (wrap64 (x3 + 1))))]).length (o2 ++ [((rdE eS x1 x3), (rdE eS x1 (wrap64 (x3 + 1))))]).length) (Le.oslN rfl (by simp)) ?_
        refine RS.go ?_
        refine RT.goto rfl ?_
        refine RS.weak [(1, sq eS x1), (2, .osl 2 e_SS.w 0 (o2 ++ [((rdE eS x1 x3), (rdE eS x1 (wrap64 (x3 + 1))))]).length (o2 ++ [((rdE eS x1 x3), (rdE eS x1 (wrap64 (x3 + 1))))]).length), (3, .int .i64 (wrap64 (x3 + 2)))] [(2, bufE e_SS (o2 ++ [((rdE eS x1 x3), (rdE eS x1 (wrap64 (x3 + 1))))]))] ⟨Le.eq (by first | rfl | simp), Le.oslN rfl (by first | rfl | simp), Le.eq (by first | rfl | simp), trivial⟩ ⟨⟨_, rfl, LeO.refl _⟩, trivial⟩ rfl (dom0 rfl) ?_
        exact ih x1 (wrap64 (x3 + 2)) (o2 ++ [((rdE eS x1 x3), (rdE eS x1 (wrap64 (x3 + 1))))]) 
      · refine RT.freeze 2 _ _ _ [(0, sq e_SS o2)] [] rfl rfl ⟨.inr ⟨_, rfl, by first | exact Nat.le_refl _ | simp, rfl⟩, trivial⟩ trivial rfl (dom0 rfl) ?_
        exact RT.done rfl rfl (Le.refl _) trivial rfl (dom0 rfl)
theorem key_Codes.ok (k : Nat) (r : (List (ByteArray × ByteArray))) (h : key_Codes.f k  = some r) : Ct Tryd.prog B 32 [] (ofL []) (sq e_SS r) (ofL []) := by
  refine Ct.of (Y := (fam Tryd.f32 [] [] [] (fun r : (List (ByteArray × ByteArray)) => sq e_SS r) (fun r => []))) Tryd.func32 rfl Tryd.call32 rfl rfl ?_ r h
  unfold key_Codes.f
  refine RS.go ?_
  refine RT.call0 rfl (fun _ h => strings_Fields.ok str_3 _ h) (LeL.eq rfl) (fun _ => rfl) (fun r1 => ?_)
  refine RS.go ?_
  refine RT.goto rfl ?_
  refine RS.ghost 2 2 e_SS.w (rep e_SS []) rfl rfl ?_
  refine RS.weak [(1, sq eS r1), (2, .osl 2 e_SS.w 0 ([] : List (ByteArray × ByteArray)).length ([] : List (ByteArray × ByteArray)).length), (3, .int .i64 0)] [(2, bufE e_SS ([] : List (ByteArray × ByteArray)))] ⟨Le.eq (by first | rfl | simp), Le.oslN rfl (by first | rfl | simp), Le.eq (by first | rfl | simp), trivial⟩ ⟨⟨_, rfl, LeO.refl _⟩, trivial⟩ rfl (dom0 rfl) ?_
  exact key_Codes.loops k r1 0 [] 
/-! ### slices_Equal_api_Signed_api_Signed: function 31 -/
def slices_Equal_api_Signed_api_Signed.k0 : List DK := [⟨[19, 23], [], [24], []⟩, ⟨[22], [], [23], []⟩, ⟨[20, 21], [], [22], []⟩, ⟨[5], [], [21], []⟩, ⟨[1], [], [20], []⟩, ⟨[18], [], [19], []⟩, ⟨[16, 17], [], [18], []⟩, ⟨[5], [], [17], []⟩, ⟨[0], [], [16], []⟩]
def slices_Equal_api_Signed_api_Signed.k1 : List Nat := [0, 0, 3, 7, 0, 0, 48, 112, 255]
def slices_Equal_api_Signed_api_Signed.l0 : Nat → List (ByteArray × ByteArray) → List (ByteArray × ByteArray) → Int → Option (Bool)
  | 0, _, _, _ => Option.none
  | k + 1, l0, l1, x13 => (if x13 < (l0.length : Int) then (if 0 ≤ x13 then (if x13 < (l0.length : Int) then (if 0 ≤ x13 then (if x13 < (l1.length : Int) then (if (decide ((rdE e_SS l0 x13).1 = (rdE e_SS l1 x13).1) && (decide ((rdE e_SS l0 x13).2 = (rdE e_SS l1 x13).2) && true)) = true then slices_Equal_api_Signed_api_Signed.l0 k l0 l1 (wrap64 (x13 + 1)) else Option.some false) else Option.none) else Option.none) else Option.none) else Option.none) else Option.some true)
def slices_Equal_api_Signed_api_Signed.f (k : Nat) (l0 : List (ByteArray × ByteArray)) (l1 : List (ByteArray × ByteArray)) : Option (Bool) := (if (l0.length : Int) = (l1.length : Int) then slices_Equal_api_Signed_api_Signed.l0 k l0 l1 0 else Option.some false)
theorem slices_Equal_api_Signed_api_Signed.loops : ∀ k, (∀ (l0 : List (ByteArray × ByteArray)) (l1 : List (ByteArray × ByteArray)) (x13 : Int), RS (fam Tryd.f31 [] [] [] (fun r : Bool => .bool r) (fun r => [])) (Func.head Tryd.f31 0) ⟨ofT [(0, sq e_SS l0), (1, sq e_SS l1), (12, .int .i64 (l0.length : Int)), (13, .int .i64 x13)], ofL []⟩ (slices_Equal_api_Signed_api_Signed.l0 k l0 l1 x13))
  | 0 => by intro _ _ _; simp only [slices_Equal_api_Signed_api_Signed.l0]; exact RS.none
  | k + 1 => by
    have ih := slices_Equal_api_Signed_api_Signed.loops k
    · intro l0 l1 x13
      simp only [slices_Equal_api_Signed_api_Signed.l0]
      refine RS.go ?_
      refine RT.br rfl (fun c6 => ?_) (fun c6 => ?_)
      · refine RT.goto rfl ?_
        refine RS.draw rfl ?_
        refine RD.br rfl (fun c1 => ?_) (fun c1 => RD.none)
        refine RD.br rfl (fun c2 => ?_) (fun c2 => RD.none)
        refine RD.br rfl (fun c3 => ?_) (fun c3 => RD.none)
        refine RD.br rfl (fun c4 => ?_) (fun c4 => RD.none)
        refine RD.fin slices_Equal_api_Signed_api_Signed.k0 slices_Equal_api_Signed_api_Signed.k1 rfl rfl (by decide +kernel) ?_
        refine RS.go ?_
        refine RT.brBN rfl (fun c5 => ?_) (fun c5 => ?_)
        · refine RT.goto rfl ?_
          refine RS.weak [(0, sq e_SS l0), (1, sq e_SS l1), (12, .int .i64 (l0.length : Int)), (13, .int .i64 (wrap64 (x13 + 1)))] [] ⟨Le.eq (by first | rfl | simp), Le.eq (by first | rfl | simp), Le.eq (by first | rfl | simp), Le.eq (by first | rfl | simp), trivial⟩ trivial rfl (dom0 rfl) ?_
          exact ih l0 l1 (wrap64 (x13 + 1)) 
        · exact RT.done rfl rfl (Le.refl _) trivial rfl (dom0 rfl)
      · exact RT.done rfl rfl (Le.refl _) trivial rfl (dom0 rfl)
theorem slices_Equal_api_Signed_api_Signed.ok (k : Nat) (l0 : List (ByteArray × ByteArray)) (l1 : List (ByteArray × ByteArray)) (r : Bool) (h : slices_Equal_api_Signed_api_Signed.f k l0 l1 = some r) : Ct Tryd.prog B 31 [sq e_SS l0, sq e_SS l1] (ofL []) (.bool r) (ofL []) := by
  refine Ct.of (Y := (fam Tryd.f31 [] [] [] (fun r : Bool => .bool r) (fun r => []))) Tryd.func31 rfl Tryd.call31 rfl rfl ?_ r h
  unfold slices_Equal_api_Signed_api_Signed.f
  refine RS.go ?_
  refine RT.brN rfl (fun c7 => ?_) (fun c7 => ?_)
  · refine RT.goto rfl ?_
    refine RS.weak [(0, sq e_SS l0), (1, sq e_SS l1), (12, .int .i64 (l0.length : Int)), (13, .int .i64 0)] [] ⟨Le.eq (by first | rfl | simp), Le.eq (by first | rfl | simp), Le.eq (by first | rfl | simp), Le.eq (by first | rfl | simp), trivial⟩ trivial rfl (dom0 rfl) ?_
    exact slices_Equal_api_Signed_api_Signed.loops k l0 l1 0 
  · exact RT.done rfl rfl (Le.refl _) trivial rfl (dom0 rfl)
/-! ### kit_Words: function 83 -/
def kit_Words.l0 : Nat → List ByteArray → List ByteArray → Int → Int → Option ((List ByteArray) × Bool)
  | 0, _, _, _, _ => Option.none
  | k + 1, x4, x9, x10, x11 => (if x11 < x10 then (if 0 ≤ x11 then (if x11 < (x9.length : Int) then (if (rdE eS x9 x11) = (⟨#[]⟩ : ByteArray) then Option.some ([], false) else kit_Words.l0 k x4 x9 x10 (wrap64 (x11 + 1))) else Option.none) else Option.none) else Option.some (x4, true))
def kit_Words.f (k : Nat) (a0 : ByteArray) : Option ((List ByteArray) × Bool) := ((strings_Split.f a0 (⟨#[32]⟩ : ByteArray)).bind fun r1 => kit_Words.l0 k r1 r1 (r1.length : Int) 0)
theorem kit_Words.loops : ∀ k, (∀ (x4 : List ByteArray) (x9 : List ByteArray) (x10 : Int) (x11 : Int), RS (fam Tryd.f83 [] [] [] (fun r : (List ByteArray) × Bool => .tup [sq eS r.1, .bool r.2]) (fun r => [])) (Func.head Tryd.f83 0) ⟨ofT [(4, sq eS x4), (9, sq eS x9), (10, .int .i64 x10), (11, .int .i64 x11)], ofL []⟩ (kit_Words.l0 k x4 x9 x10 x11))
  | 0 => by intro _ _ _ _; simp only [kit_Words.l0]; exact RS.none
  | k + 1 => by
    have ih := kit_Words.loops k
    · intro x4 x9 x10 x11
      simp only [kit_Words.l0]
      refine RS.go ?_
      refine RT.br rfl (fun c5 => ?_) (fun c5 => ?_)
      · refine RT.br rfl (fun c2 => ?_) (fun c2 => RT.none)
        refine RT.br rfl (fun c3 => ?_) (fun c3 => RT.none)
        refine RT.br rfl (fun c4 => ?_) (fun c4 => ?_)
        · exact RT.done rfl rfl (Le.tup (LeL.cons (Le.nil _ _) (LeL.cons (Le.refl _) (LeL.nil)))) trivial rfl (dom0 rfl)
        · refine RT.goto rfl ?_
          refine RS.weak [(4, sq eS x4), (9, sq eS x9), (10, .int .i64 x10), (11, .int .i64 (wrap64 (x11 + 1)))] [] ⟨Le.eq (by first | rfl | simp), Le.eq (by first | rfl | simp), Le.eq (by first | rfl | simp), Le.eq (by first | rfl | simp), trivial⟩ trivial rfl (dom0 rfl) ?_
          exact ih x4 x9 x10 (wrap64 (x11 + 1)) 
      · exact RT.done rfl rfl (Le.tup (LeL.cons (Le.refl _) (LeL.cons (Le.refl _) (LeL.nil)))) trivial rfl (dom0 rfl)
theorem kit_Words.ok (k : Nat) (a0 : ByteArray) (r : (List ByteArray) × Bool) (h : kit_Words.f k a0 = some r) : Ct Tryd.prog B 83 [.str a0] (ofL []) (.tup [sq eS r.1, .bool r.2]) (ofL []) := by
  refine Ct.of (Y := (fam Tryd.f83 [] [] [] (fun r : (List ByteArray) × Bool => .tup [sq eS r.1, .bool r.2]) (fun r => []))) Tryd.func83 rfl Tryd.call83 rfl rfl ?_ r h
  unfold kit_Words.f
  refine RS.go ?_
  refine RT.call0 rfl (fun _ h => strings_Split.ok a0 (⟨#[32]⟩ : ByteArray) _ h) (LeL.eq rfl) (fun _ => rfl) (fun r1 => ?_)
  refine RS.go ?_
  refine RT.goto rfl ?_
  refine RS.weak [(4, sq eS r1), (9, sq eS r1), (10, .int .i64 (r1.length : Int)), (11, .int .i64 0)] [] ⟨Le.eq (by first | rfl | simp), Le.eq (by first | rfl | simp), Le.eq (by first | rfl | simp), Le.eq (by first | rfl | simp), trivial⟩ trivial rfl (dom0 rfl) ?_
  exact kit_Words.loops k r1 r1 (r1.length : Int) 0 
/-! ### key_byBytes: function 84 -/
def key_byBytes.k0 : List DK := [⟨[11, 14, 16], [4], [], [4]⟩, ⟨[15], [3], [16], []⟩, ⟨[3], [3], [15], []⟩, ⟨[13], [], [14], []⟩, ⟨[12], [3], [13], []⟩, ⟨[3], [3], [12], []⟩, ⟨[1], [], [11], []⟩]
def key_byBytes.k1 : List Nat := [0, 0, 2, 6, 0, 16, 63]
def key_byBytes.l0 : Nat → List (ByteArray × ByteArray) → Int → Int → List (Int × ByteArray) → Option ((List (Int × ByteArray)))
  | 0, _, _, _, _ => Option.none
  | k + 1, x5, x6, x7, o4 => (if x7 < x6 then (if 0 ≤ x7 then (if x7 < (x5.length : Int) then (if 0 < (((rdE e_SS x5 x7).1).size : Int) then key_byBytes.l0 k x5 x6 (wrap64 (x7 + 1)) (mput o4 (bt ((rdE e_SS x5 x7).1) 0) ((rdE e_SS x5 x7).2)) else Option.none) else Option.none) else Option.none) else Option.some o4)
def key_byBytes.f (k : Nat) : Option ((List (Int × ByteArray))) := ((key_Codes.f k ).bind fun r1 => key_byBytes.l0 k r1 (r1.length : Int) 0 ([] : List (Int × ByteArray)))
theorem key_byBytes.loops : ∀ k, (∀ (x5 : List (ByteArray × ByteArray)) (x6 : Int) (x7 : Int) (o4 : List (Int × ByteArray)), RS (fam Tryd.f84 [] [] [] (fun r : (List (Int × ByteArray)) => .omap 4) (fun r => [(4, mapE (KL.ints .u8) (ByteArray.empty : ByteArray) AV.str r)])) (Func.head Tryd.f84 0) ⟨ofT [(1, .omap 4), (5, sq e_SS x5), (6, .int .i64 x6), (7, .int .i64 x7)], ofL [(4, mapE (KL.ints .u8) (ByteArray.empty : ByteArray) AV.str o4)]⟩ (key_byBytes.l0 k x5 x6 x7 o4))
  | 0 => by intro _ _ _ _; simp only [key_byBytes.l0]; exact RS.none
  | k + 1 => by
    have ih := key_byBytes.loops k
    · intro x5 x6 x7 o4
      simp only [key_byBytes.l0]
      refine RS.go ?_
      refine RT.br rfl (fun c5 => ?_) (fun c5 => ?_)
      · refine RT.br rfl (fun c2 => ?_) (fun c2 => RT.none)
        refine RT.br rfl (fun c3 => ?_) (fun c3 => RT.none)
        refine RT.goto rfl ?_
        refine RS.draw rfl ?_
        refine RD.brT rfl ?_
        refine RD.br rfl (fun c4 => ?_) (fun c4 => RD.none)
        refine RD.fin key_byBytes.k0 key_byBytes.k1 rfl rfl (by decide +kernel) ?_
        refine RS.obj 4 (mapE (KL.ints .u8) (ByteArray.empty : ByteArray) AV.str (mput o4 (bt ((rdE e_SS x5 x7).1) 0) ((rdE e_SS x5 x7).2))) ⟨_, rfl, LeO.putI⟩ ?_
        refine RS.go ?_
        refine RT.goto rfl ?_
        refine RS.weak [(1, .omap 4), (5, sq e_SS x5), (6, .int .i64 x6), (7, .int .i64 (wrap64 (x7 + 1)))] [(4, mapE (KL.ints .u8) (ByteArray.empty : ByteArray) AV.str (mput o4 (bt ((rdE e_SS x5 x7).1) 0) ((rdE e_SS x5 x7).2)))] ⟨Le.eq (by first | rfl | simp), Le.eq (by first | rfl | simp), Le.eq (by first | rfl | simp), Le.eq (by first | rfl | simp), trivial⟩ ⟨⟨_, rfl, LeO.refl _⟩, trivial⟩ rfl (dom0 rfl) ?_
        exact ih x5 x6 (wrap64 (x7 + 1)) (mput o4 (bt ((rdE e_SS x5 x7).1) 0) ((rdE e_SS x5 x7).2)) 
      · exact RT.done rfl rfl (Le.refl _) ⟨⟨_, rfl, LeO.refl _⟩, trivial⟩ rfl (dom0 rfl)
theorem key_byBytes.ok (k : Nat) (r : (List (Int × ByteArray))) (h : key_byBytes.f k  = some r) : Ct Tryd.prog B 84 [] (ofL []) (.omap 4) (ofL [(4, mapE (KL.ints .u8) (ByteArray.empty : ByteArray) AV.str r)]) := by
  refine Ct.of (Y := (fam Tryd.f84 [] [] [] (fun r : (List (Int × ByteArray)) => .omap 4) (fun r => [(4, mapE (KL.ints .u8) (ByteArray.empty : ByteArray) AV.str r)]))) Tryd.func84 rfl Tryd.call84 rfl rfl ?_ r h
  unfold key_byBytes.f
  refine RS.go ?_
  refine RT.call0 rfl (fun _ h => key_Codes.ok k  _ h) (LeL.eq rfl) (fun _ => rfl) (fun r1 => ?_)
  refine RS.go ?_
  refine RT.goto rfl ?_
  refine RS.weak [(1, .omap 4), (5, sq e_SS r1), (6, .int .i64 (r1.length : Int)), (7, .int .i64 0)] [(4, mapE (KL.ints .u8) (ByteArray.empty : ByteArray) AV.str ([] : List (Int × ByteArray)))] ⟨Le.eq (by first | rfl | simp), Le.eq (by first | rfl | simp), Le.eq (by first | rfl | simp), Le.eq (by first | rfl | simp), trivial⟩ ⟨⟨_, rfl, LeO.refl _⟩, trivial⟩ rfl (dom0 rfl) ?_
  exact key_byBytes.loops k r1 (r1.length : Int) 0 ([] : List (Int × ByteArray)) 
/-! ### key_CheckSaid: function 34 -/
mutual
def key_CheckSaid.l1 : Nat → List ByteArray → Int → Int → List (Int × ByteArray) → Int → Option (Int)
  | 0, _, _, _, _, _ => Option.none
  | k + 1, x20, x21, x22, o19, x28b => (if x28b < ((rdE eS x20 x22).size : Int) then (if 0 ≤ x28b then (if x28b < ((rdE eS x20 x22).size : Int) then (if (mget (ByteArray.empty : ByteArray) o19 (bt (rdE eS x20 x22) x28b)) = (⟨#[]⟩ : ByteArray) then Option.some 3 else key_CheckSaid.l1 k x20 x21 x22 o19 (wrap64 (x28b + 1))) else Option.none) else Option.none) else key_CheckSaid.l0 k x20 x21 (wrap64 (x22 + 1)) o19)
def key_CheckSaid.l0 : Nat → List ByteArray → Int → Int → List (Int × ByteArray) → Option (Int)
  | 0, _, _, _, _ => Option.none
  | k + 1, x20, x21, x22, o19 => (if x22 < x21 then (if 0 ≤ x22 then (if x22 < (x20.length : Int) then key_CheckSaid.l1 k x20 x21 x22 o19 0 else Option.none) else Option.none) else Option.some 0)
end
def key_CheckSaid.f (k : Nat) (a0 : ByteArray) : Option (Int) := (if (a0.size : Int) > 500 then Option.some 2 else ((kit_Words.f k a0).bind fun r1 => (if r1.2 = true then ((key_byBytes.f k ).bind fun r2 => key_CheckSaid.l0 k r1.1 (r1.1.length : Int) 0 r2) else Option.some 3)))
theorem key_CheckSaid.loops : ∀ k, (∀ (x20 : List ByteArray) (x21 : Int) (x22 : Int) (o19 : List (Int × ByteArray)) (x28b : Int), RS (fam Tryd.f34 [] [] [] (fun r : Int => .int .i64 r) (fun r => [])) (Func.head Tryd.f34 1) ⟨ofT [(5, .omap 19), (7, .str (rdE eS x20 x22)), (20, sq eS x20), (21, .int .i64 x21), (22, .int .i64 x22), (27, .int .i64 ((rdE eS x20 x22).size : Int)), (28, .int .i64 x28b)], ofL [(19, mapE (KL.ints .u8) (ByteArray.empty : ByteArray) AV.str o19)]⟩ (key_CheckSaid.l1 k x20 x21 x22 o19 x28b)) ∧ (∀ (x20 : List ByteArray) (x21 : Int) (x22 : Int) (o19 : List (Int × ByteArray)), RS (fam Tryd.f34 [] [] [] (fun r : Int => .int .i64 r) (fun r => [])) (Func.head Tryd.f34 0) ⟨ofT [(5, .omap 19), (20, sq eS x20), (21, .int .i64 x21), (22, .int .i64 x22)], ofL [(19, mapE (KL.ints .u8) (ByteArray.empty : ByteArray) AV.str o19)]⟩ (key_CheckSaid.l0 k x20 x21 x22 o19))
  | 0 => ⟨by intro _ _ _ _ _; simp only [key_CheckSaid.l1]; exact RS.none, by intro _ _ _ _; simp only [key_CheckSaid.l0]; exact RS.none⟩
  | k + 1 => by
    have ih := key_CheckSaid.loops k
    refine ⟨?_, ?_⟩
    · intro x20 x21 x22 o19 x28b
      simp only [key_CheckSaid.l1]
      refine RS.go ?_
      refine RT.br rfl (fun c8 => ?_) (fun c8 => ?_)
      · refine RT.br rfl (fun c5 => ?_) (fun c5 => RT.none)
        refine RT.br rfl (fun c6 => ?_) (fun c6 => RT.none)
        refine RT.req rfl (congrArg AV.str (map_end (l := o19) (d := (ByteArray.empty : ByteArray)))) ?_
        refine RT.br rfl (fun c7 => ?_) (fun c7 => ?_)
        · exact RT.done rfl rfl (Le.refl _) trivial rfl (dom0 rfl)
        · refine RT.goto rfl ?_
          refine RS.weak [(5, .omap 19), (7, .str (rdE eS x20 x22)), (20, sq eS x20), (21, .int .i64 x21), (22, .int .i64 x22), (27, .int .i64 ((rdE eS x20 x22).size : Int)), (28, .int .i64 (wrap64 (x28b + 1)))] [(19, mapE (KL.ints .u8) (ByteArray.empty : ByteArray) AV.str o19)] ⟨Le.eq (by first | rfl | simp), Le.eq (by first | rfl | simp), Le.eq (by first | rfl | simp), Le.eq (by first | rfl | simp), Le.eq (by first | rfl | simp), Le.eq (by first | rfl | simp), Le.eq (by first | rfl | simp), trivial⟩ ⟨⟨_, rfl, LeO.refl _⟩, trivial⟩ rfl (dom0 rfl) ?_
          exact ih.1 x20 x21 x22 o19 (wrap64 (x28b + 1)) 
      · refine RT.goto rfl ?_
        refine RS.weak [(5, .omap 19), (20, sq eS x20), (21, .int .i64 x21), (22, .int .i64 (wrap64 (x22 + 1)))] [(19, mapE (KL.ints .u8) (ByteArray.empty : ByteArray) AV.str o19)] ⟨Le.eq (by first | rfl | simp), Le.eq (by first | rfl | simp), Le.eq (by first | rfl | simp), Le.eq (by first | rfl | simp), trivial⟩ ⟨⟨_, rfl, LeO.refl _⟩, trivial⟩ rfl (dom0 rfl) ?_
        exact ih.2 x20 x21 (wrap64 (x22 + 1)) o19 
    · intro x20 x21 x22 o19
      simp only [key_CheckSaid.l0]
      refine RS.go ?_
      refine RT.br rfl (fun c9 => ?_) (fun c9 => ?_)
      · refine RT.br rfl (fun c3 => ?_) (fun c3 => RT.none)
        refine RT.br rfl (fun c4 => ?_) (fun c4 => RT.none)
        refine RT.goto rfl ?_
        refine RS.weak [(5, .omap 19), (7, .str (rdE eS x20 x22)), (20, sq eS x20), (21, .int .i64 x21), (22, .int .i64 x22), (27, .int .i64 ((rdE eS x20 x22).size : Int)), (28, .int .i64 0)] [(19, mapE (KL.ints .u8) (ByteArray.empty : ByteArray) AV.str o19)] ⟨Le.eq (by first | rfl | simp), Le.eq (by first | rfl | simp), Le.eq (by first | rfl | simp), Le.eq (by first | rfl | simp), Le.eq (by first | rfl | simp), Le.eq (by first | rfl | simp), Le.eq (by first | rfl | simp), trivial⟩ ⟨⟨_, rfl, LeO.refl _⟩, trivial⟩ rfl (dom0 rfl) ?_
        exact ih.1 x20 x21 x22 o19 0 
      · exact RT.done rfl rfl (Le.refl _) trivial rfl (dom0 rfl)
theorem key_CheckSaid.ok (k : Nat) (a0 : ByteArray) (r : Int) (h : key_CheckSaid.f k a0 = some r) : Ct Tryd.prog B 34 [.str a0] (ofL []) (.int .i64 r) (ofL []) := by
  refine Ct.of (Y := (fam Tryd.f34 [] [] [] (fun r : Int => .int .i64 r) (fun r => []))) Tryd.func34 rfl Tryd.call34 rfl rfl ?_ r h
  unfold key_CheckSaid.f
  refine RS.go ?_
  refine RT.br rfl (fun c11 => ?_) (fun c11 => ?_)
  · exact RT.done rfl rfl (Le.refl _) trivial rfl (dom0 rfl)
  · refine RT.call0 rfl (fun _ h => kit_Words.ok k a0 _ h) (LeL.eq rfl) (fun _ => rfl) (fun r1 => ?_)
    refine RS.go ?_
    refine RT.brBN rfl (fun c10 => ?_) (fun c10 => ?_)
    · refine RT.call rfl (fun _ h => key_byBytes.ok k  _ h) (fun i => bif Nat.beq i 4 then 19 else i) (LeL.eq rfl) trivial (fun _ => rfl) (fun r2 => ?_)
      refine RS.go ?_
      refine RT.goto rfl ?_
      refine RS.weak [(5, .omap 19), (20, sq eS r1.1), (21, .int .i64 (r1.1.length : Int)), (22, .int .i64 0)] [(19, mapE (KL.ints .u8) (ByteArray.empty : ByteArray) AV.str r2)] ⟨Le.eq (by first | rfl | simp), Le.eq (by first | rfl | simp), Le.eq (by first | rfl | simp), Le.eq (by first | rfl | simp), trivial⟩ ⟨⟨_, rfl, LeO.refl _⟩, trivial⟩ rfl (dom0 rfl) ?_
      exact (key_CheckSaid.loops k).2 r1.1 (r1.1.length : Int) 0 r2 
    · exact RT.done rfl rfl (Le.refl _) trivial rfl (dom0 rfl)
/-! ### key_words: function 85 -/
mutual
def key_words.l1 : Nat → List ByteArray → Int → Int → List (List ByteArray) → List (Int × ByteArray) → Int → List ByteArray → Option ((List (List ByteArray)))
  | 0, _, _, _, _, _, _, _ => Option.none
  | k + 1, x11, x12, x13, o4, o9, x19b, o7b => (if x19b < ((rdE eS x11 x13).size : Int) then (if 0 ≤ x19b then (if x19b < ((rdE eS x11 x13).size : Int) then (if o7b.length + 1 ≤ 549755813888 then key_words.l1 k x11 x12 x13 o4 o9 (wrap64 (x19b + 1)) (o7b ++ [(mget (ByteArray.empty : ByteArray) o9 (bt (rdE eS x11 x13) x19b))]) else Option.none) else Option.none) else Option.none) else (if o4.length + 1 ≤ 549755813888 then key_words.l0 k x11 x12 (wrap64 (x13 + 1)) (o4 ++ [o7b]) o9 else Option.none))
def key_words.l0 : Nat → List ByteArray → Int → Int → List (List ByteArray) → List (Int × ByteArray) → Option ((List (List ByteArray)))
  | 0, _, _, _, _, _ => Option.none
  | k + 1, x11, x12, x13, o4, o9 => (if x13 < x12 then (if 0 ≤ x13 then (if x13 < (x11.length : Int) then key_words.l1 k x11 x12 x13 o4 o9 0 [] else Option.none) else Option.none) else Option.some o4)
end
def key_words.f (k : Nat) (a0 : ByteArray) : Option ((List (List ByteArray))) := ((key_byBytes.f k ).bind fun r1 => ((strings_Split.f a0 (⟨#[32]⟩ : ByteArray)).bind fun r2 => key_words.l0 k r2 (r2.length : Int) 0 [] r1))
theorem key_words.loops : ∀ k, (∀ (x11 : List ByteArray) (x12 : Int) (x13 : Int) (o4 : List (List ByteArray)) (o9 : List (Int × ByteArray)) (x19b : Int) (o7b : List ByteArray), RS (fam Tryd.f85 [12] [] [] (fun r : (List (List ByteArray)) => sq e_L r) (fun r => [])) (Func.head Tryd.f85 1) ⟨ofT [(3, .omap 9), (4, .osl 4 e_L.w 0 o4.length o4.length), (6, .str (rdE eS x11 x13)), (7, .osl 7 eS.w 0 o7b.length o7b.length), (11, sq eS x11), (12, .int .i64 x12), (13, .int .i64 x13), (18, .int .i64 ((rdE eS x11 x13).size : Int)), (19, .int .i64 x19b)], ofL [(4, bufE e_L o4), (7, bufE eS o7b), (9, mapE (KL.ints .u8) (ByteArray.empty : ByteArray) AV.str o9)]⟩ (key_words.l1 k x11 x12 x13 o4 o9 x19b o7b)) ∧ (∀ (x11 : List ByteArray) (x12 : Int) (x13 : Int) (o4 : List (List ByteArray)) (o9 : List (Int × ByteArray)), RS (fam Tryd.f85 [12] [] [] (fun r : (List (List ByteArray)) => sq e_L r) (fun r => [])) (Func.head Tryd.f85 0) ⟨ofT [(3, .omap 9), (4, .osl 4 e_L.w 0 o4.length o4.length), (11, sq eS x11), (12, .int .i64 x12), (13, .int .i64 x13)], ofL [(4, bufE e_L o4), (9, mapE (KL.ints .u8) (ByteArray.empty : ByteArray) AV.str o9)]⟩ (key_words.l0 k x11 x12 x13 o4 o9))
  | 0 => ⟨by intro _ _ _ _ _ _ _; simp only [key_words.l1]; exact RS.none, by intro _ _ _ _ _; simp only [key_words.l0]; exact RS.none⟩
  | k + 1 => by
    have ih := key_words.loops k
    refine ⟨?_, ?_⟩
    · intro x11 x12 x13 o4 o9 x19b o7b
      simp only [key_words.l1]
      refine RS.go ?_
      refine RT.br rfl (fun c9 => ?_) (fun c9 => ?_)
      · refine RT.br rfl (fun c5 => ?_) (fun c5 => RT.none)
        refine RT.br rfl (fun c6 => ?_) (fun c6 => RT.none)
        refine RT.req rfl (congrArg AV.str (map_end (l := o9) (d := (ByteArray.empty : ByteArray)))) ?_
        refine RT.goto rfl ?_
        refine RS.slot 28 (sq eS [(mget (ByteArray.empty : ByteArray) o9 (bt (rdE eS x11 x13) x19b))]) (Le.lit (E := eS) (l := [(mget (ByteArray.empty : ByteArray) o9 (bt (rdE eS x11 x13) x19b))]) (cells_of rfl)) ?_
        refine RS.go ?_
        refine RT.req rfl ⟨by first | rfl | simp, by first | exact Nat.le_refl _ | simp⟩ ?_
        refine RT.not rfl (by simp <;> omega) ?_
        refine RT.br rfl (fun c7 => ?_) (fun _ => RT.none)
        refine RT.goto rfl ?_
        refine RS.obj 7 (bufE eS (o7b ++ [(mget (ByteArray.empty : ByteArray) o9 (bt (rdE eS x11 x13) x19b))])) ⟨_, rfl, LeO.app (l := o7b) (m := [(mget (ByteArray.empty : ByteArray) o9 (bt (rdE eS x11 x13) x19b))]) fun _ _ _ _ => rfl⟩ ?_
        refine RS.slot 29 (.osl 7 eS.w 0 (o7b ++ [(mget (ByteArray.empty : ByteArray) o9 (bt (rdE eS x11 x13) x19b))]).length (o7b ++ [(mget (ByteArray.empty : ByteArray) o9 (bt (rdE eS x11 x13) x19b))]).length) (Le.oslN rfl (by simp)) ?_
        refine RS.go ?_
        refine RT.goto rfl ?_
        refine RS.weak [(3, .omap 9), (4, .osl 4 e_L.w 0 o4.length o4.length), (6, .str (rdE eS x11 x13)), (7, .osl 7 eS.w 0 (o7b ++ [(mget (ByteArray.empty : ByteArray) o9 (bt (rdE eS x11 x13) x19b))]).length (o7b ++ [(mget (ByteArray.empty : ByteArray) o9 (bt (rdE eS x11 x13) x19b))]).length), (11, sq eS x11), (12, .int .i64 x12), (13, .int .i64 x13), (18, .int .i64 ((rdE eS x11 x13).size : Int)), (19, .int .i64 (wrap64 (x19b + 1)))] [(4, bufE e_L o4), (7, bufE eS (o7b ++ [(mget (ByteArray.empty : ByteArray) o9 (bt (rdE eS x11 x13) x19b))])), (9, mapE (KL.ints .u8) (ByteArray.empty : ByteArray) AV.str o9)] ⟨Le.eq (by first | rfl | simp), Le.oslN rfl (by first | rfl | simp), Le.eq (by first | rfl | simp), Le.oslN rfl (by first | rfl | simp), Le.eq (by first | rfl | simp), Le.eq (by first | rfl | simp), Le.eq (by first | rfl | simp), Le.eq (by first | rfl | simp), Le.eq (by first | rfl | simp), trivial⟩ ⟨⟨_, rfl, LeO.refl _⟩, ⟨_, rfl, LeO.refl _⟩, ⟨_, rfl, LeO.refl _⟩, trivial⟩ rfl (dom0 rfl) ?_
        exact ih.1 x11 x12 x13 o4 o9 (wrap64 (x19b + 1)) (o7b ++ [(mget (ByteArray.empty : ByteArray) o9 (bt (rdE eS x11 x13) x19b))]) 
      · refine RT.goto rfl ?_
        refine RS.freeze 7 _ _ _ [(3, .omap 9), (4, .osl 4 e_L.w 0 o4.length o4.length), (7, sq eS o7b), (11, sq eS x11), (12, .int .i64 x12), (13, .int .i64 x13)] [(4, bufE e_L o4), (9, mapE (KL.ints .u8) (ByteArray.empty : ByteArray) AV.str o9)] rfl ⟨.inl (Le.refl _), .inl (Le.refl _), .inr ⟨_, rfl, by first | exact Nat.le_refl _ | simp, rfl⟩, .inl (Le.refl _), .inl (Le.refl _), .inl (Le.refl _), trivial⟩ ⟨⟨_, rfl, LeO.refl _⟩, ⟨_, rfl, LeO.refl _⟩, trivial⟩ rfl (dom0 rfl) ?_
        refine RS.region ?_
        refine RS.go ?_
        refine RT.goto rfl ?_
        refine RS.slot 33 (sq e_L [o7b]) (Le.lit (E := e_L) (l := [o7b]) (cells_of rfl)) ?_
        refine RS.go ?_
        refine RT.req rfl ⟨by first | rfl | simp, by first | exact Nat.le_refl _ | simp⟩ ?_
        refine RT.not rfl (by simp <;> omega) ?_
        refine RT.br rfl (fun c8 => ?_) (fun _ => RT.none)
        refine RT.goto rfl ?_
        refine RS.obj 4 (bufE e_L (o4 ++ [o7b])) ⟨_, rfl, LeO.app (l := o4) (m := [o7b]) fun _ _ _ _ => rfl⟩ ?_
        refine RS.slot 34 (.osl 4 e_L.w 0 (o4 ++ [o7b]).length (o4 ++ [o7b]).length) (Le.oslN rfl (by simp)) ?_
        refine RS.go ?_
        refine RT.goto rfl ?_
        refine RS.weak [(3, .omap 9), (4, .osl 4 e_L.w 0 (o4 ++ [o7b]).length (o4 ++ [o7b]).length), (11, sq eS x11), (12, .int .i64 x12), (13, .int .i64 (wrap64 (x13 + 1)))] [(4, bufE e_L (o4 ++ [o7b])), (9, mapE (KL.ints .u8) (ByteArray.empty : ByteArray) AV.str o9)] ⟨Le.eq (by first | rfl | simp), Le.oslN rfl (by first | rfl | simp), Le.eq (by first | rfl | simp), Le.eq (by first | rfl | simp), Le.eq (by first | rfl | simp), trivial⟩ ⟨⟨_, rfl, LeO.refl _⟩, ⟨_, rfl, LeO.refl _⟩, trivial⟩ rfl (dom0 rfl) ?_
        exact ih.2 x11 x12 (wrap64 (x13 + 1)) (o4 ++ [o7b]) o9 
    · intro x11 x12 x13 o4 o9
      simp only [key_words.l0]
      refine RS.go ?_
      refine RT.br rfl (fun c10 => ?_) (fun c10 => ?_)
      · refine RT.br rfl (fun c3 => ?_) (fun c3 => RT.none)
        refine RT.br rfl (fun c4 => ?_) (fun c4 => RT.none)
        refine RT.goto rfl ?_
        refine RS.ghost 7 7 eS.w (rep eS []) rfl rfl ?_
        refine RS.weak [(3, .omap 9), (4, .osl 4 e_L.w 0 o4.length o4.length), (6, .str (rdE eS x11 x13)), (7, .osl 7 eS.w 0 ([] : List ByteArray).length ([] : List ByteArray).length), (11, sq eS x11), (12, .int .i64 x12), (13, .int .i64 x13), (18, .int .i64 ((rdE eS x11 x13).size : Int)), (19, .int .i64 0)] [(4, bufE e_L o4), (7, bufE eS ([] : List ByteArray)), (9, mapE (KL.ints .u8) (ByteArray.empty : ByteArray) AV.str o9)] ⟨Le.eq (by first | rfl | simp), Le.oslN rfl (by first | rfl | simp), Le.eq (by first | rfl | simp), Le.oslN rfl (by first | rfl | simp), Le.eq (by first | rfl | simp), Le.eq (by first | rfl | simp), Le.eq (by first | rfl | simp), Le.eq (by first | rfl | simp), Le.eq (by first | rfl | simp), trivial⟩ ⟨⟨_, rfl, LeO.refl _⟩, ⟨_, rfl, LeO.refl _⟩, ⟨_, rfl, LeO.refl _⟩, trivial⟩ rfl (dom0 rfl) ?_
        exact ih.1 x11 x12 x13 o4 o9 0 [] 
      · refine RT.freeze 4 _ _ _ [(2, sq e_L o4)] [] rfl rfl ⟨.inr ⟨_, rfl, by first | exact Nat.le_refl _ | simp, rfl⟩, trivial⟩ trivial rfl (dom0 rfl) ?_
        exact RT.done rfl rfl (Le.refl _) trivial rfl (dom0 rfl)
theorem key_words.ok (k : Nat) (a0 : ByteArray) (r : (List (List ByteArray))) (h : key_words.f k a0 = some r) : Ct Tryd.prog B 85 [.str a0] (ofL []) (sq e_L r) (ofL []) := by
  refine Ct.of (Y := (fam Tryd.f85 [12] [] [] (fun r : (List (List ByteArray)) => sq e_L r) (fun r => []))) Tryd.func85 rfl Tryd.call85 rfl rfl ?_ r h
  unfold key_words.f
  refine RS.go ?_
  refine RT.call rfl (fun _ h => key_byBytes.ok k  _ h) (fun i => bif Nat.beq i 4 then 9 else i) (LeL.eq rfl) trivial (fun _ => rfl) (fun r1 => ?_)
  refine RS.go ?_
  refine RT.call0 rfl (fun _ h => strings_Split.ok a0 (⟨#[32]⟩ : ByteArray) _ h) (LeL.eq rfl) (fun _ => rfl) (fun r2 => ?_)
  refine RS.go ?_
  refine RT.goto rfl ?_
  refine RS.ghost 4 4 e_L.w (rep e_L []) rfl rfl ?_
  refine RS.weak [(3, .omap 9), (4, .osl 4 e_L.w 0 ([] : List (List ByteArray)).length ([] : List (List ByteArray)).length), (11, sq eS r2), (12, .int .i64 (r2.length : Int)), (13, .int .i64 0)] [(4, bufE e_L ([] : List (List ByteArray))), (9, mapE (KL.ints .u8) (ByteArray.empty : ByteArray) AV.str r1)] ⟨Le.eq (by first | rfl | simp), Le.oslN rfl (by first | rfl | simp), Le.eq (by first | rfl | simp), Le.eq (by first | rfl | simp), Le.eq (by first | rfl | simp), trivial⟩ ⟨⟨_, rfl, LeO.refl _⟩, ⟨_, rfl, LeO.refl _⟩, trivial⟩ rfl (dom0 rfl) ?_
  exact (key_words.loops k).2 r2 (r2.length : Int) 0 [] r1 
/-! ### key_Code: function 35 -/
def key_Code.l0 : Nat → List (List ByteArray) → Int → Int → List ByteArray → Option (ByteArray × Int)
  | 0, _, _, _, _ => Option.none
  | k + 1, x14, x15, x16, o5 => (if x16 < x15 then (if 0 ≤ x16 then (if x16 < (x14.length : Int) then ((strings_Join.f (rdE e_L x14 x16) (⟨#[32]⟩ : ByteArray)).bind fun r5 => (if o5.length + 1 ≤ 549755813888 then key_Code.l0 k x14 x15 (wrap64 (x16 + 1)) (o5 ++ [r5]) else Option.none)) else Option.none) else Option.none) else ((strings_Join.f o5 (⟨#[32, 47, 32]⟩ : ByteArray)).bind fun r7 => Option.some (r7, 0)))
def key_Code.f (k : Nat) (a0 : ByteArray) : Option (ByteArray × Int) := ((key_CheckSaid.f k a0).bind fun r1 => (if r1 = 0 then ((key_words.f k a0).bind fun r2 => key_Code.l0 k r2 (r2.length : Int) 0 []) else Option.some ((⟨#[]⟩ : ByteArray), r1)))
theorem key_Code.loops : ∀ k, (∀ (x14 : List (List ByteArray)) (x15 : Int) (x16 : Int) (o5 : List ByteArray), RS (fam Tryd.f35 [10] [] [] (fun r : ByteArray × Int => .tup [.str r.1, .int .i64 r.2]) (fun r => [])) (Func.head Tryd.f35 0) ⟨ofT [(5, .osl 5 eS.w 0 o5.length o5.length), (14, sq e_L x14), (15, .int .i64 x15), (16, .int .i64 x16)], ofL [(5, bufE eS o5)]⟩ (key_Code.l0 k x14 x15 x16 o5))
  | 0 => by intro _ _ _ _; simp only [key_Code.l0]; exact RS.none
  | k + 1 => by
    have ih := key_Code.loops k
    · intro x14 x15 x16 o5
      simp only [key_Code.l0]
      refine RS.go ?_
      refine RT.br rfl (fun c8 => ?_) (fun c8 => ?_)
      · refine RT.br rfl (fun c3 => ?_) (fun c3 => RT.none)
        refine RT.br rfl (fun c4 => ?_) (fun c4 => RT.none)
        refine RT.call0 rfl (fun _ h => strings_Join.ok (rdE e_L x14 x16) (⟨#[32]⟩ : ByteArray) _ h) (LeL.eq rfl) (fun _ => rfl) (fun r5 => ?_)
        refine RS.go ?_
        refine RT.goto rfl ?_
        refine RS.slot 23 (sq eS [r5]) (Le.lit (E := eS) (l := [r5]) (cells_of rfl)) ?_
        refine RS.go ?_
        refine RT.req rfl ⟨by first | rfl | simp, by first | exact Nat.le_refl _ | simp⟩ ?_
        refine RT.not rfl (by simp <;> omega) ?_
        refine RT.br rfl (fun c6 => ?_) (fun _ => RT.none)
        refine RT.goto rfl ?_
        refine RS.obj 5 (bufE eS (o5 ++ [r5])) ⟨_, rfl, LeO.app (l := o5) (m := [r5]) fun _ _ _ _ => rfl⟩ ?_
        refine RS.slot 24 (.osl 5 eS.w 0 (o5 ++ [r5]).length (o5 ++ [r5]).length) (Le.oslN rfl (by simp)) ?_
        refine RS.go ?_
        refine RT.goto rfl ?_
        refine RS.weak [(5, .osl 5 eS.w 0 (o5 ++ [r5]).length (o5 ++ [r5]).length), (14, sq e_L x14), (15, .int .i64 x15), (16, .int .i64 (wrap64 (x16 + 1)))] [(5, bufE eS (o5 ++ [r5]))] ⟨Le.oslN rfl (by first | rfl | simp), Le.eq (by first | rfl | simp), Le.eq (by first | rfl | simp), Le.eq (by first | rfl | simp), trivial⟩ ⟨⟨_, rfl, LeO.refl _⟩, trivial⟩ rfl (dom0 rfl) ?_
        exact ih x14 x15 (wrap64 (x16 + 1)) (o5 ++ [r5]) 
      · refine RT.goto rfl ?_
        refine RS.freeze 5 _ _ _ [(5, sq eS o5)] [] rfl ⟨.inr ⟨_, rfl, by first | exact Nat.le_refl _ | simp, rfl⟩, trivial⟩ trivial rfl (dom0 rfl) ?_
        refine RS.region ?_
        refine RS.go ?_
        refine RT.call0 rfl (fun _ h => strings_Join.ok o5 (⟨#[32, 47, 32]⟩ : ByteArray) _ h) (LeL.eq rfl) (fun _ => rfl) (fun r7 => ?_)
        refine RS.go ?_
        exact RT.done rfl rfl (Le.tup (LeL.cons (Le.refl _) (LeL.cons (Le.refl _) (LeL.nil)))) trivial rfl (dom0 rfl)
theorem key_Code.ok (k : Nat) (a0 : ByteArray) (r : ByteArray × Int) (h : key_Code.f k a0 = some r) : Ct Tryd.prog B 35 [.str a0] (ofL []) (.tup [.str r.1, .int .i64 r.2]) (ofL []) := by
  refine Ct.of (Y := (fam Tryd.f35 [10] [] [] (fun r : ByteArray × Int => .tup [.str r.1, .int .i64 r.2]) (fun r => []))) Tryd.func35 rfl Tryd.call35 rfl rfl ?_ r h
  unfold key_Code.f
  refine RS.go ?_
  refine RT.call0 rfl (fun _ h => key_CheckSaid.ok k a0 _ h) (LeL.eq rfl) (fun _ => rfl) (fun r1 => ?_)
  refine RS.go ?_
  refine RT.brN rfl (fun c9 => ?_) (fun c9 => ?_)
  · refine RT.call0 rfl (fun _ h => key_words.ok k a0 _ h) (LeL.eq rfl) (fun _ => rfl) (fun r2 => ?_)
    refine RS.go ?_
    refine RT.goto rfl ?_
    refine RS.ghost 5 5 eS.w (rep eS []) rfl rfl ?_
    refine RS.weak [(5, .osl 5 eS.w 0 ([] : List ByteArray).length ([] : List ByteArray).length), (14, sq e_L r2), (15, .int .i64 (r2.length : Int)), (16, .int .i64 0)] [(5, bufE eS ([] : List ByteArray))] ⟨Le.oslN rfl (by first | rfl | simp), Le.eq (by first | rfl | simp), Le.eq (by first | rfl | simp), Le.eq (by first | rfl | simp), trivial⟩ ⟨⟨_, rfl, LeO.refl _⟩, trivial⟩ rfl (dom0 rfl) ?_
    exact key_Code.loops k r2 (r2.length : Int) 0 [] 
  · exact RT.done rfl rfl (Le.tup (LeL.cons (Le.refl _) (LeL.cons (Le.refl _) (LeL.nil)))) trivial rfl (dom0 rfl)
/-! ### key_lengths: function 75 -/
mutual
def key_lengths.j20 : Nat → Int → Int → List (List ByteArray) → Int → Int → Int → Int → List Int → Int → Option ((List Int))
  | 0, _, _, _, _, _, _, _, _, _ => Option.none
  | k + 1, a1, a2, x15, x16, x17, x31b, x45c, o7j17, x13j20 => (if o7j17.length + 1 ≤ 549755813888 then key_lengths.l2 k a1 a2 x15 x16 x17 x31b (wrap64 (x45c + 1)) (o7j17 ++ [x13j20]) else Option.none)
def key_lengths.j17 : Nat → Int → Int → List (List ByteArray) → Int → Int → Int → Int → List Int → Option ((List Int))
  | 0, _, _, _, _, _, _, _, _ => Option.none
  | k + 1, a1, a2, x15, x16, x17, x31b, x45c, o7j17 => (if 0 ≤ x45c then (if x45c < ((rdE eS (rdE e_L x15 x17) x31b).size : Int) then (if bt (rdE eS (rdE e_L x15 x17) x31b) x45c = 45 then key_lengths.j20 k a1 a2 x15 x16 x17 x31b x45c o7j17 (wrap64 (a1 * 3)) else key_lengths.j20 k a1 a2 x15 x16 x17 x31b x45c o7j17 a1) else Option.none) else Option.none)
def key_lengths.l2 : Nat → Int → Int → List (List ByteArray) → Int → Int → Int → Int → List Int → Option ((List Int))
  | 0, _, _, _, _, _, _, _, _ => Option.none
  | k + 1, a1, a2, x15, x16, x17, x31b, x45c, o7c => (if x45c < ((rdE eS (rdE e_L x15 x17) x31b).size : Int) then (if x45c > 0 then (if o7c.length + 1 ≤ 549755813888 then key_lengths.j17 k a1 a2 x15 x16 x17 x31b x45c (o7c ++ [a1]) else Option.none) else key_lengths.j17 k a1 a2 x15 x16 x17 x31b x45c o7c) else key_lengths.l1 k a1 a2 x15 x16 x17 (wrap64 (x31b + 1)) o7c)
def key_lengths.j12 : Nat → Int → Int → List (List ByteArray) → Int → Int → Int → List Int → Option ((List Int))
  | 0, _, _, _, _, _, _, _ => Option.none
  | k + 1, a1, a2, x15, x16, x17, x31b, o7j12 => key_lengths.l2 k a1 a2 x15 x16 x17 x31b 0 o7j12
def key_lengths.l1 : Nat → Int → Int → List (List ByteArray) → Int → Int → Int → List Int → Option ((List Int))
  | 0, _, _, _, _, _, _, _ => Option.none
  | k + 1, a1, a2, x15, x16, x17, x31b, o7b => (if x31b < ((rdE e_L x15 x17).length : Int) then (if 0 ≤ x31b then (if x31b < ((rdE e_L x15 x17).length : Int) then (if x31b > 0 then (if o7b.length + 1 ≤ 549755813888 then key_lengths.j12 k a1 a2 x15 x16 x17 x31b (o7b ++ [wrap64 (3 * a2)]) else Option.none) else key_lengths.j12 k a1 a2 x15 x16 x17 x31b o7b) else Option.none) else Option.none) else key_lengths.l0 k a1 a2 x15 x16 (wrap64 (x17 + 1)) o7b)
def key_lengths.j7 : Nat → Int → Int → List (List ByteArray) → Int → Int → List Int → Option ((List Int))
  | 0, _, _, _, _, _, _ => Option.none
  | k + 1, a1, a2, x15, x16, x17, o7j7 => key_lengths.l1 k a1 a2 x15 x16 x17 0 o7j7
def key_lengths.l0 : Nat → Int → Int → List (List ByteArray) → Int → Int → List Int → Option ((List Int))
  | 0, _, _, _, _, _, _ => Option.none
  | k + 1, a1, a2, x15, x16, x17, o7 => (if x17 < x16 then (if 0 ≤ x17 then (if x17 < (x15.length : Int) then (if x17 > 0 then (if o7.length + 1 ≤ 549755813888 then key_lengths.j7 k a1 a2 x15 x16 x17 (o7 ++ [wrap64 (7 * a2)]) else Option.none) else key_lengths.j7 k a1 a2 x15 x16 x17 o7) else Option.none) else Option.none) else Option.some o7)
end
def key_lengths.f (k : Nat) (a0 : ByteArray) (a1 : Int) (a2 : Int) : Option ((List Int)) := ((key_words.f k a0).bind fun r1 => key_lengths.l0 k a1 a2 r1 (r1.length : Int) 0 [])
theorem key_lengths.loops : ∀ k, (∀ (a1 : Int) (a2 : Int) (x15 : List (List ByteArray)) (x16 : Int) (x17 : Int) (x31b : Int) (x45c : Int) (o7j17 : List Int) (x13j20 : Int), RS (fam Tryd.f75 [7, 12, 17, 20] [] [] (fun r : (List Int) => sq eI r) (fun r => [])) (Func.reg Tryd.f75 20) ⟨ofT [(1, .int .i64 a1), (2, .int .i64 a2), (7, .osl 7 eI.w 0 o7j17.length o7j17.length), (11, .str (rdE eS (rdE e_L x15 x17) x31b)), (13, .int .i64 x13j20), (15, sq e_L x15), (16, .int .i64 x16), (17, .int .i64 x17), (29, sq eS (rdE e_L x15 x17)), (30, .int .i64 ((rdE e_L x15 x17).length : Int)), (31, .int .i64 x31b), (44, .int .i64 ((rdE eS (rdE e_L x15 x17) x31b).size : Int)), (45, .int .i64 x45c)], ofL [(7, bufE eI o7j17)]⟩ (key_lengths.j20 k a1 a2 x15 x16 x17 x31b x45c o7j17 x13j20)) ∧ (∀ (a1 : Int) (a2 : Int) (x15 : List (List ByteArray)) (x16 : Int) (x17 : Int) (x31b : Int) (x45c : Int) (o7j17 : List Int), RS (fam Tryd.f75 [7, 12, 17, 20] [] [] (fun r : (List Int) => sq eI r) (fun r => [])) (Func.reg Tryd.f75 17) ⟨ofT [(1, .int .i64 a1), (2, .int .i64 a2), (7, .osl 7 eI.w 0 o7j17.length o7j17.length), (11, .str (rdE eS (rdE e_L x15 x17) x31b)), (12, .int .i64 x45c), (15, sq e_L x15), (16, .int .i64 x16), (17, .int .i64 x17), (29, sq eS (rdE e_L x15 x17)), (30, .int .i64 ((rdE e_L x15 x17).length : Int)), (31, .int .i64 x31b), (44, .int .i64 ((rdE eS (rdE e_L x15 x17) x31b).size : Int)), (45, .int .i64 x45c)], ofL [(7, bufE eI o7j17)]⟩ (key_lengths.j17 k a1 a2 x15 x16 x17 x31b x45c o7j17)) ∧ (∀ (a1 : Int) (a2 : Int) (x15 : List (List ByteArray)) (x16 : Int) (x17 : Int) (x31b : Int) (x45c : Int) (o7c : List Int), RS (fam Tryd.f75 [7, 12, 17, 20] [] [] (fun r : (List Int) => sq eI r) (fun r => [])) (Func.head Tryd.f75 2) ⟨ofT [(1, .int .i64 a1), (2, .int .i64 a2), (7, .osl 7 eI.w 0 o7c.length o7c.length), (11, .str (rdE eS (rdE e_L x15 x17) x31b)), (15, sq e_L x15), (16, .int .i64 x16), (17, .int .i64 x17), (29, sq eS (rdE e_L x15 x17)), (30, .int .i64 ((rdE e_L x15 x17).length : Int)), (31, .int .i64 x31b), (44, .int .i64 ((rdE eS (rdE e_L x15 x17) x31b).size : Int)), (45, .int .i64 x45c)], ofL [(7, bufE eI o7c)]⟩ (key_lengths.l2 k a1 a2 x15 x16 x17 x31b x45c o7c)) ∧ (∀ (a1 : Int) (a2 : Int) (x15 : List (List ByteArray)) (x16 : Int) (x17 : Int) (x31b : Int) (o7j12 : List Int), RS (fam Tryd.f75 [7, 12, 17, 20] [] [] (fun r : (List Int) => sq eI r) (fun r => [])) (Func.reg Tryd.f75 12) ⟨ofT [(1, .int .i64 a1), (2, .int .i64 a2), (7, .osl 7 eI.w 0 o7j12.length o7j12.length), (11, .str (rdE eS (rdE e_L x15 x17) x31b)), (15, sq e_L x15), (16, .int .i64 x16), (17, .int .i64 x17), (29, sq eS (rdE e_L x15 x17)), (30, .int .i64 ((rdE e_L x15 x17).length : Int)), (31, .int .i64 x31b)], ofL [(7, bufE eI o7j12)]⟩ (key_lengths.j12 k a1 a2 x15 x16 x17 x31b o7j12)) ∧ (∀ (a1 : Int) (a2 : Int) (x15 : List (List ByteArray)) (x16 : Int) (x17 : Int) (x31b : Int) (o7b : List Int), RS (fam Tryd.f75 [7, 12, 17, 20] [] [] (fun r : (List Int) => sq eI r) (fun r => [])) (Func.head Tryd.f75 1) ⟨ofT [(1, .int .i64 a1), (2, .int .i64 a2), (7, .osl 7 eI.w 0 o7b.length o7b.length), (15, sq e_L x15), (16, .int .i64 x16), (17, .int .i64 x17), (29, sq eS (rdE e_L x15 x17)), (30, .int .i64 ((rdE e_L x15 x17).length : Int)), (31, .int .i64 x31b)], ofL [(7, bufE eI o7b)]⟩ (key_lengths.l1 k a1 a2 x15 x16 x17 x31b o7b)) ∧ (∀ (a1 : Int) (a2 : Int) (x15 : List (List ByteArray)) (x16 : Int) (x17 : Int) (o7j7 : List Int), RS (fam Tryd.f75 [7, 12, 17, 20] [] [] (fun r : (List Int) => sq eI r) (fun r => [])) (Func.reg Tryd.f75 7) ⟨ofT [(1, .int .i64 a1), (2, .int .i64 a2), (7, .osl 7 eI.w 0 o7j7.length o7j7.length), (9, sq eS (rdE e_L x15 x17)), (15, sq e_L x15), (16, .int .i64 x16), (17, .int .i64 x17)], ofL [(7, bufE eI o7j7)]⟩ (key_lengths.j7 k a1 a2 x15 x16 x17 o7j7)) ∧ (∀ (a1 : Int) (a2 : Int) (x15 : List (List ByteArray)) (x16 : Int) (x17 : Int) (o7 : List Int), RS (fam Tryd.f75 [7, 12, 17, 20] [] [] (fun r : (List Int) => sq eI r) (fun r => [])) (Func.head Tryd.f75 0) ⟨ofT [(1, .int .i64 a1), (2, .int .i64 a2), (7, .osl 7 eI.w 0 o7.length o7.length), (15, sq e_L x15), (16, .int .i64 x16), (17, .int .i64 x17)], ofL [(7, bufE eI o7)]⟩ (key_lengths.l0 k a1 a2 x15 x16 x17 o7))
  | 0 => ⟨by intro _ _ _ _ _ _ _ _ _; simp only [key_lengths.j20]; exact RS.none, by intro _ _ _ _ _ _ _ _; simp only [key_lengths.j17]; exact RS.none, by intro _ _ _ _ _ _ _ _; simp only [key_lengths.l2]; exact RS.none, by intro _ _ _ _ _ _ _; simp only [key_lengths.j12]; exact RS.none, by intro _ _ _ _ _ _ _; simp only [key_lengths.l1]; exact RS.none, by intro _ _ _ _ _ _; simp only [key_lengths.j7]; exact RS.none, by intro _ _ _ _ _ _; simp only [key_lengths.l0]; exact RS.none⟩
  | k + 1 => by
    have ih := key_lengths.loops k
    refine ⟨?_, ?_, ?_, ?_, ?_, ?_, ?_⟩
    · intro a1 a2 x15 x16 x17 x31b x45c o7j17 x13j20
      simp only [key_lengths.j20]
      refine RS.region ?_
      refine RS.go ?_
      refine RT.goto rfl ?_
      refine RS.slot 63 (sq eI [x13j20]) (Le.lit (E := eI) (l := [x13j20]) (cells_of rfl)) ?_
      refine RS.go ?_
      refine RT.req rfl ⟨by first | rfl | simp, by first | exact Nat.le_refl _ | simp⟩ ?_
      refine RT.not rfl (by simp <;> omega) ?_
      refine RT.br rfl (fun c8 => ?_) (fun _ => RT.none)
      refine RT.goto rfl ?_
      refine RS.obj 7 (bufE eI (o7j17 ++ [x13j20])) ⟨_, rfl, LeO.app (l := o7j17) (m := [x13j20]) fun _ _ _ _ => rfl⟩ ?_
      refine RS.slot 64 (.osl 7 eI.w 0 (o7j17 ++ [x13j20]).length (o7j17 ++ [x13j20]).length) (Le.oslN rfl (by simp)) ?_
      refine RS.go ?_
      refine RT.goto rfl ?_
      refine RS.weak [(1, .int .i64 a1), (2, .int .i64 a2), (7, .osl 7 eI.w 0 (o7j17 ++ [x13j20]).length (o7j17 ++ [x13j20]).length), (11, .str (rdE eS (rdE e_L x15 x17) x31b)), (15, sq e_L x15), (16, .int .i64 x16), (17, .int .i64 x17), (29, sq eS (rdE e_L x15 x17)), (30, .int .i64 ((rdE e_L x15 x17).length : Int)), (31, .int .i64 x31b), (44, .int .i64 ((rdE eS (rdE e_L x15 x17) x31b).size : Int)), (45, .int .i64 (wrap64 (x45c + 1)))] [(7, bufE eI (o7j17 ++ [x13j20]))] ⟨Le.eq (by first | rfl | simp), Le.eq (by first | rfl | simp), Le.oslN rfl (by first | rfl | simp), Le.eq (by first | rfl | simp), Le.eq (by first | rfl | simp), Le.eq (by first | rfl | simp), Le.eq (by first | rfl | simp), Le.eq (by first | rfl | simp), Le.eq (by first | rfl | simp), Le.eq (by first | rfl | simp), Le.eq (by first | rfl | simp), Le.eq (by first | rfl | simp), trivial⟩ ⟨⟨_, rfl, LeO.refl _⟩, trivial⟩ rfl (dom0 rfl) ?_
      exact ih.2.2.1 a1 a2 x15 x16 x17 x31b (wrap64 (x45c + 1)) (o7j17 ++ [x13j20]) 
    · intro a1 a2 x15 x16 x17 x31b x45c o7j17
      simp only [key_lengths.j17]
      refine RS.region ?_
      refine RS.go ?_
      refine RT.br rfl (fun c6 => ?_) (fun c6 => RT.none)
      refine RT.br rfl (fun c7 => ?_) (fun c7 => RT.none)
      refine RT.br rfl (fun c9 => ?_) (fun c9 => ?_)
      · refine RT.goto rfl ?_
        refine RS.weak [(1, .int .i64 a1), (2, .int .i64 a2), (7, .osl 7 eI.w 0 o7j17.length o7j17.length), (11, .str (rdE eS (rdE e_L x15 x17) x31b)), (13, .int .i64 (wrap64 (a1 * 3))), (15, sq e_L x15), (16, .int .i64 x16), (17, .int .i64 x17), (29, sq eS (rdE e_L x15 x17)), (30, .int .i64 ((rdE e_L x15 x17).length : Int)), (31, .int .i64 x31b), (44, .int .i64 ((rdE eS (rdE e_L x15 x17) x31b).size : Int)), (45, .int .i64 x45c)] [(7, bufE eI o7j17)] ⟨Le.eq (by first | rfl | simp), Le.eq (by first | rfl | simp), Le.oslN rfl (by first | rfl | simp), Le.eq (by first | rfl | simp), Le.eq (by first | rfl | simp), Le.eq (by first | rfl | simp), Le.eq (by first | rfl | simp), Le.eq (by first | rfl | simp), Le.eq (by first | rfl | simp), Le.eq (by first | rfl | simp), Le.eq (by first | rfl | simp), Le.eq (by first | rfl | simp), Le.eq (by first | rfl | simp), trivial⟩ ⟨⟨_, rfl, LeO.refl _⟩, trivial⟩ rfl (dom0 rfl) ?_
        exact ih.1 a1 a2 x15 x16 x17 x31b x45c o7j17 (wrap64 (a1 * 3)) 
      · refine RT.goto rfl ?_
        refine RS.weak [(1, .int .i64 a1), (2, .int .i64 a2), (7, .osl 7 eI.w 0 o7j17.length o7j17.length), (11, .str (rdE eS (rdE e_L x15 x17) x31b)), (13, .int .i64 a1), (15, sq e_L x15), (16, .int .i64 x16), (17, .int .i64 x17), (29, sq eS (rdE e_L x15 x17)), (30, .int .i64 ((rdE e_L x15 x17).length : Int)), (31, .int .i64 x31b), (44, .int .i64 ((rdE eS (rdE e_L x15 x17) x31b).size : Int)), (45, .int .i64 x45c)] [(7, bufE eI o7j17)] ⟨Le.eq (by first | rfl | simp), Le.eq (by first | rfl | simp), Le.oslN rfl (by first | rfl | simp), Le.eq (by first | rfl | simp), Le.eq (by first | rfl | simp), Le.eq (by first | rfl | simp), Le.eq (by first | rfl | simp), Le.eq (by first | rfl | simp), Le.eq (by first | rfl | simp), Le.eq (by first | rfl | simp), Le.eq (by first | rfl | simp), Le.eq (by first | rfl | simp), Le.eq (by first | rfl | simp), trivial⟩ ⟨⟨_, rfl, LeO.refl _⟩, trivial⟩ rfl (dom0 rfl) ?_
        exact ih.1 a1 a2 x15 x16 x17 x31b x45c o7j17 a1 
    · intro a1 a2 x15 x16 x17 x31b x45c o7c
      simp only [key_lengths.l2]
      refine RS.go ?_
      refine RT.br rfl (fun c12 => ?_) (fun c12 => ?_)
      · refine RT.br rfl (fun c11 => ?_) (fun c11 => ?_)
        · refine RT.goto rfl ?_
          refine RS.slot 52 (sq eI [a1]) (Le.lit (E := eI) (l := [a1]) (cells_of rfl)) ?_
          refine RS.go ?_
          refine RT.req rfl ⟨by first | rfl | simp, by first | exact Nat.le_refl _ | simp⟩ ?_
          refine RT.not rfl (by simp <;> omega) ?_
          refine RT.br rfl (fun c10 => ?_) (fun _ => RT.none)
          refine RT.goto rfl ?_
          refine RS.obj 7 (bufE eI (o7c ++ [a1])) ⟨_, rfl, LeO.app (l := o7c) (m := [a1]) fun _ _ _ _ => rfl⟩ ?_
          refine RS.slot 53 (.osl 7 eI.w 0 (o7c ++ [a1]).length (o7c ++ [a1]).length) (Le.oslN rfl (by simp)) ?_
          refine RS.go ?_
          refine RT.goto rfl ?_
          refine RS.weak [(1, .int .i64 a1), (2, .int .i64 a2), (7, .osl 7 eI.w 0 (o7c ++ [a1]).length (o7c ++ [a1]).length), (11, .str (rdE eS (rdE e_L x15 x17) x31b)), (12, .int .i64 x45c), (15, sq e_L x15), (16, .int .i64 x16), (17, .int .i64 x17), (29, sq eS (rdE e_L x15 x17)), (30, .int .i64 ((rdE e_L x15 x17).length : Int)), (31, .int .i64 x31b), (44, .int .i64 ((rdE eS (rdE e_L x15 x17) x31b).size : Int)), (45, .int .i64 x45c)] [(7, bufE eI (o7c ++ [a1]))] ⟨Le.eq (by first | rfl | simp), Le.eq (by first | rfl | simp), Le.oslN rfl (by first | rfl | simp), Le.eq (by first | rfl | simp), Le.eq (by first | rfl | simp), Le.eq (by first | rfl | simp), Le.eq (by first | rfl | simp), Le.eq (by first | rfl | simp), Le.eq (by first | rfl | simp), Le.eq (by first | rfl | simp), Le.eq (by first | rfl | simp), Le.eq (by first | rfl | simp), Le.eq (by first | rfl | simp), trivial⟩ ⟨⟨_, rfl, LeO.refl _⟩, trivial⟩ rfl (dom0 rfl) ?_
          exact ih.2.1 a1 a2 x15 x16 x17 x31b x45c (o7c ++ [a1]) 
        · refine RT.goto rfl ?_
          refine RS.weak [(1, .int .i64 a1), (2, .int .i64 a2), (7, .osl 7 eI.w 0 o7c.length o7c.length), (11, .str (rdE eS (rdE e_L x15 x17) x31b)), (12, .int .i64 x45c), (15, sq e_L x15), (16, .int .i64 x16), (17, .int .i64 x17), (29, sq eS (rdE e_L x15 x17)), (30, .int .i64 ((rdE e_L x15 x17).length : Int)), (31, .int .i64 x31b), (44, .int .i64 ((rdE eS (rdE e_L x15 x17) x31b).size : Int)), (45, .int .i64 x45c)] [(7, bufE eI o7c)] ⟨Le.eq (by first | rfl | simp), Le.eq (by first | rfl | simp), Le.oslN rfl (by first | rfl | simp), Le.eq (by first | rfl | simp), Le.eq (by first | rfl | simp), Le.eq (by first | rfl | simp), Le.eq (by first | rfl | simp), Le.eq (by first | rfl | simp), Le.eq (by first | rfl | simp), Le.eq (by first | rfl | simp), Le.eq (by first | rfl | simp), Le.eq (by first | rfl | simp), Le.eq (by first | rfl | simp), trivial⟩ ⟨⟨_, rfl, LeO.refl _⟩, trivial⟩ rfl (dom0 rfl) ?_
          exact ih.2.1 a1 a2 x15 x16 x17 x31b x45c o7c 
      · refine RT.goto rfl ?_
        refine RS.weak [(1, .int .i64 a1), (2, .int .i64 a2), (7, .osl 7 eI.w 0 o7c.length o7c.length), (15, sq e_L x15), (16, .int .i64 x16), (17, .int .i64 x17), (29, sq eS (rdE e_L x15 x17)), (30, .int .i64 ((rdE e_L x15 x17).length : Int)), (31, .int .i64 (wrap64 (x31b + 1)))] [(7, bufE eI o7c)] ⟨Le.eq (by first | rfl | simp), Le.eq (by first | rfl | simp), Le.oslN rfl (by first | rfl | simp), Le.eq (by first | rfl | simp), Le.eq (by first | rfl | simp), Le.eq (by first | rfl | simp), Le.eq (by first | rfl | simp), Le.eq (by first | rfl | simp), Le.eq (by first | rfl | simp), trivial⟩ ⟨⟨_, rfl, LeO.refl _⟩, trivial⟩ rfl (dom0 rfl) ?_
        exact ih.2.2.2.2.1 a1 a2 x15 x16 x17 (wrap64 (x31b + 1)) o7c 
    · intro a1 a2 x15 x16 x17 x31b o7j12
      simp only [key_lengths.j12]
      refine RS.region ?_
      refine RS.go ?_
      refine RT.goto rfl ?_
      refine RS.weak [(1, .int .i64 a1), (2, .int .i64 a2), (7, .osl 7 eI.w 0 o7j12.length o7j12.length), (11, .str (rdE eS (rdE e_L x15 x17) x31b)), (15, sq e_L x15), (16, .int .i64 x16), (17, .int .i64 x17), (29, sq eS (rdE e_L x15 x17)), (30, .int .i64 ((rdE e_L x15 x17).length : Int)), (31, .int .i64 x31b), (44, .int .i64 ((rdE eS (rdE e_L x15 x17) x31b).size : Int)), (45, .int .i64 0)] [(7, bufE eI o7j12)] ⟨Le.eq (by first | rfl | simp), Le.eq (by first | rfl | simp), Le.oslN rfl (by first | rfl | simp), Le.eq (by first | rfl | simp), Le.eq (by first | rfl | simp), Le.eq (by first | rfl | simp), Le.eq (by first | rfl | simp), Le.eq (by first | rfl | simp), Le.eq (by first | rfl | simp), Le.eq (by first | rfl | simp), Le.eq (by first | rfl | simp), Le.eq (by first | rfl | simp), trivial⟩ ⟨⟨_, rfl, LeO.refl _⟩, trivial⟩ rfl (dom0 rfl) ?_
      exact ih.2.2.1 a1 a2 x15 x16 x17 x31b 0 o7j12 
    · intro a1 a2 x15 x16 x17 x31b o7b
      simp only [key_lengths.l1]
      refine RS.go ?_
      refine RT.br rfl (fun c15 => ?_) (fun c15 => ?_)
      · refine RT.br rfl (fun c4 => ?_) (fun c4 => RT.none)
        refine RT.br rfl (fun c5 => ?_) (fun c5 => RT.none)
        refine RT.br rfl (fun c14 => ?_) (fun c14 => ?_)
        · refine RT.goto rfl ?_
          refine RS.slot 41 (sq eI [wrap64 (3 * a2)]) (Le.lit (E := eI) (l := [wrap64 (3 * a2)]) (cells_of rfl)) ?_
          refine RS.go ?_
          refine RT.req rfl ⟨by first | rfl | simp, by first | exact Nat.le_refl _ | simp⟩ ?_
          refine RT.not rfl (by simp <;> omega) ?_
          refine RT.br rfl (fun c13 => ?_) (fun _ => RT.none)
          refine RT.goto rfl ?_
          refine RS.obj 7 (bufE eI (o7b ++ [wrap64 (3 * a2)])) ⟨_, rfl, LeO.app (l := o7b) (m := [wrap64 (3 * a2)]) fun _ _ _ _ => rfl⟩ ?_
          refine RS.slot 42 (.osl 7 eI.w 0 (o7b ++ [wrap64 (3 * a2)]).length (o7b ++ [wrap64 (3 * a2)]).length) (Le.oslN rfl (by simp)) ?_
          refine RS.go ?_
          refine RT.goto rfl ?_
          refine RS.weak [(1, .int .i64 a1), (2, .int .i64 a2), (7, .osl 7 eI.w 0 (o7b ++ [wrap64 (3 * a2)]).length (o7b ++ [wrap64 (3 * a2)]).length), (11, .str (rdE eS (rdE e_L x15 x17) x31b)), (15, sq e_L x15), (16, .int .i64 x16), (17, .int .i64 x17), (29, sq eS (rdE e_L x15 x17)), (30, .int .i64 ((rdE e_L x15 x17).length : Int)), (31, .int .i64 x31b)] [(7, bufE eI (o7b ++ [wrap64 (3 * a2)]))] ⟨Le.eq (by first | rfl | simp), Le.eq (by first | rfl | simp), Le.oslN rfl (by first | rfl | simp), Le.eq (by first | rfl | simp), Le.eq (by first | rfl | simp), Le.eq (by first | rfl | simp), Le.eq (by first | rfl | simp), Le.eq (by first | rfl | simp), Le.eq (by first | rfl | simp), Le.eq (by first | rfl | simp), trivial⟩ ⟨⟨_, rfl, LeO.refl _⟩, trivial⟩ rfl (dom0 rfl) ?_
          exact ih.2.2.2.1 a1 a2 x15 x16 x17 x31b (o7b ++ [wrap64 (3 * a2)]) 
        · refine RT.goto rfl ?_
          refine RS.weak [(1, .int .i64 a1), (2, .int .i64 a2), (7, .osl 7 eI.w 0 o7b.length o7b.length), (11, .str (rdE eS (rdE e_L x15 x17) x31b)), (15, sq e_L x15), (16, .int .i64 x16), (17, .int .i64 x17), (29, sq eS (rdE e_L x15 x17)), (30, .int .i64 ((rdE e_L x15 x17).length : Int)), (31, .int .i64 x31b)] [(7, bufE eI o7b)] ⟨Le.eq (by first | rfl | simp), Le.eq (by first | rfl | simp), Le.oslN rfl (by first | rfl | simp), Le.eq (by first | rfl | simp), Le.eq (by first | rfl | simp), Le.eq (by first | rfl | simp), Le.eq (by first | rfl | simp), Le.eq (by first | rfl | simp), Le.eq (by first | rfl | simp), Le.eq (by first | rfl | simp), trivial⟩ ⟨⟨_, rfl, LeO.refl _⟩, trivial⟩ rfl (dom0 rfl) ?_
          exact ih.2.2.2.1 a1 a2 x15 x16 x17 x31b o7b 
      · refine RT.goto rfl ?_
        refine RS.weak [(1, .int .i64 a1), (2, .int .i64 a2), (7, .osl 7 eI.w 0 o7b.length o7b.length), (15, sq e_L x15), (16, .int .i64 x16), (17, .int .i64 (wrap64 (x17 + 1)))] [(7, bufE eI o7b)] ⟨Le.eq (by first | rfl | simp), Le.eq (by first | rfl | simp), Le.oslN rfl (by first | rfl | simp), Le.eq (by first | rfl | simp), Le.eq (by first | rfl | simp), Le.eq (by first | rfl | simp), trivial⟩ ⟨⟨_, rfl, LeO.refl _⟩, trivial⟩ rfl (dom0 rfl) ?_
        exact ih.2.2.2.2.2.2 a1 a2 x15 x16 (wrap64 (x17 + 1)) o7b 
    · intro a1 a2 x15 x16 x17 o7j7
      simp only [key_lengths.j7]
      refine RS.region ?_
      refine RS.go ?_
      refine RT.goto rfl ?_
      refine RS.weak [(1, .int .i64 a1), (2, .int .i64 a2), (7, .osl 7 eI.w 0 o7j7.length o7j7.length), (15, sq e_L x15), (16, .int .i64 x16), (17, .int .i64 x17), (29, sq eS (rdE e_L x15 x17)), (30, .int .i64 ((rdE e_L x15 x17).length : Int)), (31, .int .i64 0)] [(7, bufE eI o7j7)] ⟨Le.eq (by first | rfl | simp), Le.eq (by first | rfl | simp), Le.oslN rfl (by first | rfl | simp), Le.eq (by first | rfl | simp), Le.eq (by first | rfl | simp), Le.eq (by first | rfl | simp), Le.eq (by first | rfl | simp), Le.eq (by first | rfl | simp), Le.eq (by first | rfl | simp), trivial⟩ ⟨⟨_, rfl, LeO.refl _⟩, trivial⟩ rfl (dom0 rfl) ?_
      exact ih.2.2.2.2.1 a1 a2 x15 x16 x17 0 o7j7 
    · intro a1 a2 x15 x16 x17 o7
      simp only [key_lengths.l0]
      refine RS.go ?_
      refine RT.br rfl (fun c18 => ?_) (fun c18 => ?_)
      · refine RT.br rfl (fun c2 => ?_) (fun c2 => RT.none)
        refine RT.br rfl (fun c3 => ?_) (fun c3 => RT.none)
        refine RT.br rfl (fun c17 => ?_) (fun c17 => ?_)
        · refine RT.goto rfl ?_
          refine RS.slot 27 (sq eI [wrap64 (7 * a2)]) (Le.lit (E := eI) (l := [wrap64 (7 * a2)]) (cells_of rfl)) ?_
          refine RS.go ?_
          refine RT.req rfl ⟨by first | rfl | simp, by first | exact Nat.le_refl _ | simp⟩ ?_
          refine RT.not rfl (by simp <;> omega) ?_
          refine RT.br rfl (fun c16 => ?_) (fun _ => RT.none)
          refine RT.goto rfl ?_
          refine RS.obj 7 (bufE eI (o7 ++ [wrap64 (7 * a2)])) ⟨_, rfl, LeO.app (l := o7) (m := [wrap64 (7 * a2)]) fun _ _ _ _ => rfl⟩ ?_
          refine RS.slot 28 (.osl 7 eI.w 0 (o7 ++ [wrap64 (7 * a2)]).length (o7 ++ [wrap64 (7 * a2)]).length) (Le.oslN rfl (by simp)) ?_
          refine RS.go ?_
          refine RT.goto rfl ?_
          refine RS.weak [(1, .int .i64 a1), (2, .int .i64 a2), (7, .osl 7 eI.w 0 (o7 ++ [wrap64 (7 * a2)]).length (o7 ++ [wrap64 (7 * a2)]).length), (9, sq eS (rdE e_L x15 x17)), (15, sq e_L x15), (16, .int .i64 x16), (17, .int .i64 x17)] [(7, bufE eI (o7 ++ [wrap64 (7 * a2)]))] ⟨Le.eq (by first | rfl | simp), Le.eq (by first | rfl | simp), Le.oslN rfl (by first | rfl | simp), Le.eq (by first | rfl | simp), Le.eq (by first | rfl | simp), Le.eq (by first | rfl | simp), Le.eq (by first | rfl | simp), trivial⟩ ⟨⟨_, rfl, LeO.refl _⟩, trivial⟩ rfl (dom0 rfl) ?_
          exact ih.2.2.2.2.2.1 a1 a2 x15 x16 x17 (o7 ++ [wrap64 (7 * a2)]) 
        · refine RT.goto rfl ?_
          refine RS.weak [(1, .int .i64 a1), (2, .int .i64 a2), (7, .osl 7 eI.w 0 o7.length o7.length), (9, sq eS (rdE e_L x15 x17)), (15, sq e_L x15), (16, .int .i64 x16), (17, .int .i64 x17)] [(7, bufE eI o7)] ⟨Le.eq (by first | rfl | simp), Le.eq (by first | rfl | simp), Le.oslN rfl (by first | rfl | simp), Le.eq (by first | rfl | simp), Le.eq (by first | rfl | simp), Le.eq (by first | rfl | simp), Le.eq (by first | rfl | simp), trivial⟩ ⟨⟨_, rfl, LeO.refl _⟩, trivial⟩ rfl (dom0 rfl) ?_
          exact ih.2.2.2.2.2.1 a1 a2 x15 x16 x17 o7 
      · refine RT.freeze 7 _ _ _ [(6, sq eI o7)] [] rfl rfl ⟨.inr ⟨_, rfl, by first | exact Nat.le_refl _ | simp, rfl⟩, trivial⟩ trivial rfl (dom0 rfl) ?_
        exact RT.done rfl rfl (Le.refl _) trivial rfl (dom0 rfl)
theorem key_lengths.ok (k : Nat) (a0 : ByteArray) (a1 : Int) (a2 : Int) (r : (List Int)) (h : key_lengths.f k a0 a1 a2 = some r) : Ct Tryd.prog B 75 [.str a0, .int .i64 a1, .int .i64 a2] (ofL []) (sq eI r) (ofL []) := by
  refine Ct.of (Y := (fam Tryd.f75 [7, 12, 17, 20] [] [] (fun r : (List Int) => sq eI r) (fun r => []))) Tryd.func75 rfl Tryd.call75 rfl rfl ?_ r h
  unfold key_lengths.f
  refine RS.go ?_
  refine RT.call0 rfl (fun _ h => key_words.ok k a0 _ h) (LeL.eq rfl) (fun _ => rfl) (fun r1 => ?_)
  refine RS.go ?_
  refine RT.goto rfl ?_
  refine RS.ghost 7 7 eI.w (rep eI []) rfl rfl ?_
  refine RS.weak [(1, .int .i64 a1), (2, .int .i64 a2), (7, .osl 7 eI.w 0 ([] : List Int).length ([] : List Int).length), (15, sq e_L r1), (16, .int .i64 (r1.length : Int)), (17, .int .i64 0)] [(7, bufE eI ([] : List Int))] ⟨Le.eq (by first | rfl | simp), Le.eq (by first | rfl | simp), Le.oslN rfl (by first | rfl | simp), Le.eq (by first | rfl | simp), Le.eq (by first | rfl | simp), Le.eq (by first | rfl | simp), trivial⟩ ⟨⟨_, rfl, LeO.refl _⟩, trivial⟩ rfl (dom0 rfl) ?_
  exact (key_lengths.loops k).2.2.2.2.2.2 a1 a2 r1 (r1.length : Int) 0 [] 
/-! ### key_Units: function 36 -/
def key_Units.l0 : Nat → Int → List Int → Int → Int → Option (Int × Int)
  | 0, _, _, _, _ => Option.none
  | k + 1, x5, x14, x15, x16 => (if x16 < x15 then (if 0 ≤ x16 then (if x16 < (x14.length : Int) then key_Units.l0 k (wrap64 (x5 + (rd x14 x16))) x14 x15 (wrap64 (x16 + 1)) else Option.none) else Option.none) else Option.some (x5, 0))
def key_Units.f (k : Nat) (a0 : ByteArray) : Option (Int × Int) := ((key_CheckSaid.f k a0).bind fun r1 => (if r1 = 0 then ((key_lengths.f k a0 1 1).bind fun r2 => key_Units.l0 k 0 r2 (r2.length : Int) 0) else Option.some (0, r1)))
theorem key_Units.loops : ∀ k, (∀ (x5 : Int) (x14 : List Int) (x15 : Int) (x16 : Int), RS (fam Tryd.f36 [] [] [] (fun r : Int × Int => .tup [.int .i64 r.1, .int .i64 r.2]) (fun r => [])) (Func.head Tryd.f36 0) ⟨ofT [(5, .int .i64 x5), (14, sq eI x14), (15, .int .i64 x15), (16, .int .i64 x16)], ofL []⟩ (key_Units.l0 k x5 x14 x15 x16))
  | 0 => by intro _ _ _ _; simp only [key_Units.l0]; exact RS.none
  | k + 1 => by
    have ih := key_Units.loops k
    · intro x5 x14 x15 x16
      simp only [key_Units.l0]
      refine RS.go ?_
      refine RT.br rfl (fun c5 => ?_) (fun c5 => ?_)
      · refine RT.br rfl (fun c3 => ?_) (fun c3 => RT.none)
        refine RT.br rfl (fun c4 => ?_) (fun c4 => RT.none)
        refine RT.goto rfl ?_
        refine RS.weak [(5, .int .i64 (wrap64 (x5 + (rd x14 x16)))), (14, sq eI x14), (15, .int .i64 x15), (16, .int .i64 (wrap64 (x16 + 1)))] [] ⟨Le.eq (by first | rfl | simp), Le.eq (by first | rfl | simp), Le.eq (by first | rfl | simp), Le.eq (by first | rfl | simp), trivial⟩ trivial rfl (dom0 rfl) ?_
        exact ih (wrap64 (x5 + (rd x14 x16))) x14 x15 (wrap64 (x16 + 1)) 
      · exact RT.done rfl rfl (Le.tup (LeL.cons (Le.refl _) (LeL.cons (Le.refl _) (LeL.nil)))) trivial rfl (dom0 rfl)
theorem key_Units.ok (k : Nat) (a0 : ByteArray) (r : Int × Int) (h : key_Units.f k a0 = some r) : Ct Tryd.prog B 36 [.str a0] (ofL []) (.tup [.int .i64 r.1, .int .i64 r.2]) (ofL []) := by
  refine Ct.of (Y := (fam Tryd.f36 [] [] [] (fun r : Int × Int => .tup [.int .i64 r.1, .int .i64 r.2]) (fun r => []))) Tryd.func36 rfl Tryd.call36 rfl rfl ?_ r h
  unfold key_Units.f
  refine RS.go ?_
  refine RT.call0 rfl (fun _ h => key_CheckSaid.ok k a0 _ h) (LeL.eq rfl) (fun _ => rfl) (fun r1 => ?_)
  refine RS.go ?_
  refine RT.brN rfl (fun c6 => ?_) (fun c6 => ?_)
  · refine RT.call0 rfl (fun _ h => key_lengths.ok k a0 1 1 _ h) (LeL.eq rfl) (fun _ => rfl) (fun r2 => ?_)
    refine RS.go ?_
    refine RT.goto rfl ?_
    refine RS.weak [(5, .int .i64 0), (14, sq eI r2), (15, .int .i64 (r2.length : Int)), (16, .int .i64 0)] [] ⟨Le.eq (by first | rfl | simp), Le.eq (by first | rfl | simp), Le.eq (by first | rfl | simp), Le.eq (by first | rfl | simp), trivial⟩ trivial rfl (dom0 rfl) ?_
    exact key_Units.loops k 0 r2 (r2.length : Int) 0 
  · exact RT.done rfl rfl (Le.tup (LeL.cons (Le.refl _) (LeL.cons (Le.refl _) (LeL.nil)))) trivial rfl (dom0 rfl)
/-! ### pileref1_KeyedOf: function 29 -/
mutual
def pileref1_KeyedOf.j16 : Nat → ByteArray → Int → Int → Int → ByteArray → Nat → List Int → Option ((List Int))
  | 0, _, _, _, _, _, _, _ => Option.none
  | k + 1, a0, a1, a2, x14, w27b, o27b, o7j16 => pileref1_KeyedOf.l1 k a0 a1 a2 x14 a1 o7j16 w27b (o27b + (Utf8.decode w27b o27b).2)
def pileref1_KeyedOf.j13 : Nat → ByteArray → Int → Int → Int → ByteArray → Nat → List Int → Option ((List Int))
  | 0, _, _, _, _, _, _, _ => Option.none
  | k + 1, a0, a1, a2, x14, w27b, o27b, o7j13 => (if ((Utf8.decode w27b o27b).1 : Int) = 46 then (if o7j13.length + 1 ≤ 549755813888 then pileref1_KeyedOf.j16 k a0 a1 a2 x14 w27b o27b (o7j13 ++ [a1]) else Option.none) else (if o7j13.length + 1 ≤ 549755813888 then pileref1_KeyedOf.j16 k a0 a1 a2 x14 w27b o27b (o7j13 ++ [wrap64 (3 * a1)]) else Option.none))
def pileref1_KeyedOf.l1 : Nat → ByteArray → Int → Int → Int → Int → List Int → ByteArray → Nat → Option ((List Int))
  | 0, _, _, _, _, _, _, _, _ => Option.none
  | k + 1, a0, a1, a2, x14, x8b, o7b, w27b, o27b => (if o27b < w27b.size then (if (o7b.length : Int) > 0 then (if o7b.length + 1 ≤ 549755813888 then pileref1_KeyedOf.j13 k a0 a1 a2 x14 w27b o27b (o7b ++ [x8b]) else Option.none) else pileref1_KeyedOf.j13 k a0 a1 a2 x14 w27b o27b o7b) else pileref1_KeyedOf.l0 k a0 a1 a2 (wrap64 (3 * a2)) (wrap64 (x14 + 1)) o7b)
def pileref1_KeyedOf.l0 : Nat → ByteArray → Int → Int → Int → Int → List Int → Option ((List Int))
  | 0, _, _, _, _, _, _ => Option.none
  | k + 1, a0, a1, a2, x8, x14, o7 => (if x14 < (a0.size : Int) then (if 0 ≤ x14 then (if x14 < (a0.size : Int) then (if bt a0 x14 = 32 then pileref1_KeyedOf.l0 k a0 a1 a2 (wrap64 (7 * a2)) (wrap64 (x14 + 1)) o7 else (if 0 ≤ x14 then (if x14 < (a0.size : Int) then ((pileref1_codeOf.f k (bt a0 x14)).bind fun r5 => pileref1_KeyedOf.l1 k a0 a1 a2 x14 x8 o7 r5 0) else Option.none) else Option.none)) else Option.none) else Option.none) else Option.some o7)
end
def pileref1_KeyedOf.f (k : Nat) (a0 : ByteArray) (a1 : Int) (a2 : Int) : Option ((List Int)) := pileref1_KeyedOf.l0 k a0 a1 a2 0 0 []
theorem pileref1_KeyedOf.loops : ∀ k, (∀ (a0 : ByteArray) (a1 : Int) (a2 : Int) (x14 : Int) (w27b : ByteArray) (o27b : Nat) (o7j16 : List Int), RS (fam Tryd.f29 [13, 16] [] [] (fun r : (List Int) => sq eI r) (fun r => [])) (Func.reg Tryd.f29 16) ⟨ofT [(0, .str a0), (1, .int .i64 a1), (2, .int .i64 a2), (7, .osl 7 eI.w 0 o7j16.length o7j16.length), (13, .int .i64 (a0.size : Int)), (14, .int .i64 x14), (27, .ref 27 0 0 0 0)], ofL [(7, bufE eI o7j16), (27, .it w27b (o27b + (Utf8.decode w27b o27b).2))]⟩ (pileref1_KeyedOf.j16 k a0 a1 a2 x14 w27b o27b o7j16)) ∧ (∀ (a0 : ByteArray) (a1 : Int) (a2 : Int) (x14 : Int) (w27b : ByteArray) (o27b : Nat) (o7j13 : List Int), RS (fam Tryd.f29 [13, 16] [] [] (fun r : (List Int) => sq eI r) (fun r => [])) (Func.reg Tryd.f29 13) ⟨ofT [(0, .str a0), (1, .int .i64 a1), (2, .int .i64 a2), (7, .osl 7 eI.w 0 o7j13.length o7j13.length), (11, .int .i32 ((Utf8.decode w27b o27b).1 : Int)), (13, .int .i64 (a0.size : Int)), (14, .int .i64 x14), (27, .ref 27 0 0 0 0)], ofL [(7, bufE eI o7j13), (27, .it w27b (o27b + (Utf8.decode w27b o27b).2))]⟩ (pileref1_KeyedOf.j13 k a0 a1 a2 x14 w27b o27b o7j13)) ∧ (∀ (a0 : ByteArray) (a1 : Int) (a2 : Int) (x14 : Int) (x8b : Int) (o7b : List Int) (w27b : ByteArray) (o27b : Nat), RS (fam Tryd.f29 [13, 16] [] [] (fun r : (List Int) => sq eI r) (fun r => [])) (Func.head Tryd.f29 1) ⟨ofT [(0, .str a0), (1, .int .i64 a1), (2, .int .i64 a2), (7, .osl 7 eI.w 0 o7b.length o7b.length), (8, .int .i64 x8b), (13, .int .i64 (a0.size : Int)), (14, .int .i64 x14), (27, .ref 27 0 0 0 0)], ofL [(7, bufE eI o7b), (27, .it w27b o27b)]⟩ (pileref1_KeyedOf.l1 k a0 a1 a2 x14 x8b o7b w27b o27b)) ∧ (∀ (a0 : ByteArray) (a1 : Int) (a2 : Int) (x8 : Int) (x14 : Int) (o7 : List Int), RS (fam Tryd.f29 [13, 16] [] [] (fun r : (List Int) => sq eI r) (fun r => [])) (Func.head Tryd.f29 0) ⟨ofT [(0, .str a0), (1, .int .i64 a1), (2, .int .i64 a2), (7, .osl 7 eI.w 0 o7.length o7.length), (8, .int .i64 x8), (13, .int .i64 (a0.size : Int)), (14, .int .i64 x14)], ofL [(7, bufE eI o7)]⟩ (pileref1_KeyedOf.l0 k a0 a1 a2 x8 x14 o7))
  | 0 => ⟨by intro _ _ _ _ _ _ _; simp only [pileref1_KeyedOf.j16]; exact RS.none, by intro _ _ _ _ _ _ _; simp only [pileref1_KeyedOf.j13]; exact RS.none, by intro _ _ _ _ _ _ _ _; simp only [pileref1_KeyedOf.l1]; exact RS.none, by intro _ _ _ _ _ _; simp only [pileref1_KeyedOf.l0]; exact RS.none⟩
  | k + 1 => by
    have ih := pileref1_KeyedOf.loops k
    refine ⟨?_, ?_, ?_, ?_⟩
    · intro a0 a1 a2 x14 w27b o27b o7j16
      simp only [pileref1_KeyedOf.j16]
      refine RS.region ?_
      refine RS.go ?_
      refine RT.goto rfl ?_
      refine RS.weak [(0, .str a0), (1, .int .i64 a1), (2, .int .i64 a2), (7, .osl 7 eI.w 0 o7j16.length o7j16.length), (8, .int .i64 a1), (13, .int .i64 (a0.size : Int)), (14, .int .i64 x14), (27, .ref 27 0 0 0 0)] [(7, bufE eI o7j16), (27, .it w27b (o27b + (Utf8.decode w27b o27b).2))] ⟨Le.eq (by first | rfl | simp), Le.eq (by first | rfl | simp), Le.eq (by first | rfl | simp), Le.oslN rfl (by first | rfl | simp), Le.eq (by first | rfl | simp), Le.eq (by first | rfl | simp), Le.eq (by first | rfl | simp), Le.eq (by first | rfl | simp), trivial⟩ ⟨⟨_, rfl, LeO.refl _⟩, ⟨_, rfl, LeO.refl _⟩, trivial⟩ rfl (dom0 rfl) ?_
      exact ih.2.2.1 a0 a1 a2 x14 a1 o7j16 w27b (o27b + (Utf8.decode w27b o27b).2) 
    · intro a0 a1 a2 x14 w27b o27b o7j13
      simp only [pileref1_KeyedOf.j13]
      refine RS.region ?_
      refine RS.go ?_
      refine RT.br rfl (fun c8 => ?_) (fun c8 => ?_)
      · refine RT.goto rfl ?_
        refine RS.slot 42 (sq eI [a1]) (Le.lit (E := eI) (l := [a1]) (cells_of rfl)) ?_
        refine RS.go ?_
        refine RT.req rfl ⟨by first | rfl | simp, by first | exact Nat.le_refl _ | simp⟩ ?_
        refine RT.not rfl (by simp <;> omega) ?_
        refine RT.br rfl (fun c6 => ?_) (fun _ => RT.none)
        refine RT.goto rfl ?_
        refine RS.obj 7 (bufE eI (o7j13 ++ [a1])) ⟨_, rfl, LeO.app (l := o7j13) (m := [a1]) fun _ _ _ _ => rfl⟩ ?_
        refine RS.slot 43 (.osl 7 eI.w 0 (o7j13 ++ [a1]).length (o7j13 ++ [a1]).length) (Le.oslN rfl (by simp)) ?_
        refine RS.go ?_
        refine RT.goto rfl ?_
        refine RS.weak [(0, .str a0), (1, .int .i64 a1), (2, .int .i64 a2), (7, .osl 7 eI.w 0 (o7j13 ++ [a1]).length (o7j13 ++ [a1]).length), (13, .int .i64 (a0.size : Int)), (14, .int .i64 x14), (27, .ref 27 0 0 0 0)] [(7, bufE eI (o7j13 ++ [a1])), (27, .it w27b (o27b + (Utf8.decode w27b o27b).2))] ⟨Le.eq (by first | rfl | simp), Le.eq (by first | rfl | simp), Le.eq (by first | rfl | simp), Le.oslN rfl (by first | rfl | simp), Le.eq (by first | rfl | simp), Le.eq (by first | rfl | simp), Le.eq (by first | rfl | simp), trivial⟩ ⟨⟨_, rfl, LeO.refl _⟩, ⟨_, rfl, LeO.refl _⟩, trivial⟩ rfl (dom0 rfl) ?_
        exact ih.1 a0 a1 a2 x14 w27b o27b (o7j13 ++ [a1]) 
      · refine RT.goto rfl ?_
        refine RS.slot 47 (sq eI [wrap64 (3 * a1)]) (Le.lit (E := eI) (l := [wrap64 (3 * a1)]) (cells_of rfl)) ?_
        refine RS.go ?_
        refine RT.req rfl ⟨by first | rfl | simp, by first | exact Nat.le_refl _ | simp⟩ ?_
        refine RT.not rfl (by simp <;> omega) ?_
        refine RT.br rfl (fun c7 => ?_) (fun _ => RT.none)
        refine RT.goto rfl ?_
        refine RS.obj 7 (bufE eI (o7j13 ++ [wrap64 (3 * a1)])) ⟨_, rfl, LeO.app (l := o7j13) (m := [wrap64 (3 * a1)]) fun _ _ _ _ => rfl⟩ ?_
        refine RS.slot 48 (.osl 7 eI.w 0 (o7j13 ++ [wrap64 (3 * a1)]).length (o7j13 ++ [wrap64 (3 * a1)]).length) (Le.oslN rfl (by simp)) ?_
        refine RS.go ?_
        refine RT.goto rfl ?_
        refine RS.weak [(0, .str a0), (1, .int .i64 a1), (2, .int .i64 a2), (7, .osl 7 eI.w 0 (o7j13 ++ [wrap64 (3 * a1)]).length (o7j13 ++ [wrap64 (3 * a1)]).length), (13, .int .i64 (a0.size : Int)), (14, .int .i64 x14), (27, .ref 27 0 0 0 0)] [(7, bufE eI (o7j13 ++ [wrap64 (3 * a1)])), (27, .it w27b (o27b + (Utf8.decode w27b o27b).2))] ⟨Le.eq (by first | rfl | simp), Le.eq (by first | rfl | simp), Le.eq (by first | rfl | simp), Le.oslN rfl (by first | rfl | simp), Le.eq (by first | rfl | simp), Le.eq (by first | rfl | simp), Le.eq (by first | rfl | simp), trivial⟩ ⟨⟨_, rfl, LeO.refl _⟩, ⟨_, rfl, LeO.refl _⟩, trivial⟩ rfl (dom0 rfl) ?_
        exact ih.1 a0 a1 a2 x14 w27b o27b (o7j13 ++ [wrap64 (3 * a1)]) 
    · intro a0 a1 a2 x14 x8b o7b w27b o27b
      simp only [pileref1_KeyedOf.l1]
      refine RS.go ?_
      refine RT.br rfl (fun c11 => ?_) (fun c11 => ?_)
      · refine RT.brT rfl ?_
        refine RT.req rfl (by first | exact Nat.zero_add _ | rfl | simp [szf, szOf]) ?_
        refine RT.br rfl (fun c10 => ?_) (fun c10 => ?_)
        · refine RT.goto rfl ?_
          refine RS.slot 36 (sq eI [x8b]) (Le.lit (E := eI) (l := [x8b]) (cells_of rfl)) ?_
          refine RS.go ?_
          refine RT.req rfl ⟨by first | rfl | simp, by first | exact Nat.le_refl _ | simp⟩ ?_
          refine RT.not rfl (by simp <;> omega) ?_
          refine RT.br rfl (fun c9 => ?_) (fun _ => RT.none)
          refine RT.goto rfl ?_
          refine RS.obj 7 (bufE eI (o7b ++ [x8b])) ⟨_, rfl, LeO.app (l := o7b) (m := [x8b]) fun _ _ _ _ => rfl⟩ ?_
          refine RS.slot 37 (.osl 7 eI.w 0 (o7b ++ [x8b]).length (o7b ++ [x8b]).length) (Le.oslN rfl (by simp)) ?_
          refine RS.go ?_
          refine RT.goto rfl ?_
          refine RS.weak [(0, .str a0), (1, .int .i64 a1), (2, .int .i64 a2), (7, .osl 7 eI.w 0 (o7b ++ [x8b]).length (o7b ++ [x8b]).length), (11, .int .i32 ((Utf8.decode w27b o27b).1 : Int)), (13, .int .i64 (a0.size : Int)), (14, .int .i64 x14), (27, .ref 27 0 0 0 0)] [(7, bufE eI (o7b ++ [x8b])), (27, .it w27b (o27b + (Utf8.decode w27b o27b).2))] ⟨Le.eq (by first | rfl | simp), Le.eq (by first | rfl | simp), Le.eq (by first | rfl | simp), Le.oslN rfl (by first | rfl | simp), Le.eq (by first | rfl | simp), Le.eq (by first | rfl | simp), Le.eq (by first | rfl | simp), Le.eq (by first | rfl | simp), trivial⟩ ⟨⟨_, rfl, LeO.refl _⟩, ⟨_, rfl, LeO.refl _⟩, trivial⟩ rfl (dom0 rfl) ?_
          exact ih.2.1 a0 a1 a2 x14 w27b o27b (o7b ++ [x8b]) 
        · refine RT.goto rfl ?_
          refine RS.weak [(0, .str a0), (1, .int .i64 a1), (2, .int .i64 a2), (7, .osl 7 eI.w 0 o7b.length o7b.length), (11, .int .i32 ((Utf8.decode w27b o27b).1 : Int)), (13, .int .i64 (a0.size : Int)), (14, .int .i64 x14), (27, .ref 27 0 0 0 0)] [(7, bufE eI o7b), (27, .it w27b (o27b + (Utf8.decode w27b o27b).2))] ⟨Le.eq (by first | rfl | simp), Le.eq (by first | rfl | simp), Le.eq (by first | rfl | simp), Le.oslN rfl (by first | rfl | simp), Le.eq (by first | rfl | simp), Le.eq (by first | rfl | simp), Le.eq (by first | rfl | simp), Le.eq (by first | rfl | simp), trivial⟩ ⟨⟨_, rfl, LeO.refl _⟩, ⟨_, rfl, LeO.refl _⟩, trivial⟩ rfl (dom0 rfl) ?_
          exact ih.2.1 a0 a1 a2 x14 w27b o27b o7b 
      · refine RT.brF rfl ?_
        refine RT.goto rfl ?_
        refine RS.weak [(0, .str a0), (1, .int .i64 a1), (2, .int .i64 a2), (7, .osl 7 eI.w 0 o7b.length o7b.length), (8, .int .i64 (wrap64 (3 * a2))), (13, .int .i64 (a0.size : Int)), (14, .int .i64 (wrap64 (x14 + 1)))] [(7, bufE eI o7b)] ⟨Le.eq (by first | rfl | simp), Le.eq (by first | rfl | simp), Le.eq (by first | rfl | simp), Le.oslN rfl (by first | rfl | simp), Le.eq (by first | rfl | simp), Le.eq (by first | rfl | simp), Le.eq (by first | rfl | simp), trivial⟩ ⟨⟨_, rfl, LeO.refl _⟩, trivial⟩ rfl (dom0 rfl) ?_
        exact ih.2.2.2 a0 a1 a2 (wrap64 (3 * a2)) (wrap64 (x14 + 1)) o7b 
    · intro a0 a1 a2 x8 x14 o7
      simp only [pileref1_KeyedOf.l0]
      refine RS.go ?_
      refine RT.br rfl (fun c13 => ?_) (fun c13 => ?_)
      · refine RT.br rfl (fun c1 => ?_) (fun c1 => RT.none)
        refine RT.br rfl (fun c2 => ?_) (fun c2 => RT.none)
        refine RT.br rfl (fun c12 => ?_) (fun c12 => ?_)
        · refine RT.goto rfl ?_
          refine RS.weak [(0, .str a0), (1, .int .i64 a1), (2, .int .i64 a2), (7, .osl 7 eI.w 0 o7.length o7.length), (8, .int .i64 (wrap64 (7 * a2))), (13, .int .i64 (a0.size : Int)), (14, .int .i64 (wrap64 (x14 + 1)))] [(7, bufE eI o7)] ⟨Le.eq (by first | rfl | simp), Le.eq (by first | rfl | simp), Le.eq (by first | rfl | simp), Le.oslN rfl (by first | rfl | simp), Le.eq (by first | rfl | simp), Le.eq (by first | rfl | simp), Le.eq (by first | rfl | simp), trivial⟩ ⟨⟨_, rfl, LeO.refl _⟩, trivial⟩ rfl (dom0 rfl) ?_
          exact ih.2.2.2 a0 a1 a2 (wrap64 (7 * a2)) (wrap64 (x14 + 1)) o7 
        · refine RT.br rfl (fun c3 => ?_) (fun c3 => RT.none)
          refine RT.br rfl (fun c4 => ?_) (fun c4 => RT.none)
          refine RT.call0 rfl (fun _ h => pileref1_codeOf.ok k (bt a0 x14) _ h) (LeL.eq rfl) (fun _ => rfl) (fun r5 => ?_)
          refine RS.go ?_
          refine RT.goto rfl ?_
          refine RS.weak [(0, .str a0), (1, .int .i64 a1), (2, .int .i64 a2), (7, .osl 7 eI.w 0 o7.length o7.length), (8, .int .i64 x8), (13, .int .i64 (a0.size : Int)), (14, .int .i64 x14), (27, .ref 27 0 0 0 0)] [(7, bufE eI o7), (27, .it r5 0)] ⟨Le.eq (by first | rfl | simp), Le.eq (by first | rfl | simp), Le.eq (by first | rfl | simp), Le.oslN rfl (by first | rfl | simp), Le.eq (by first | rfl | simp), Le.eq (by first | rfl | simp), Le.eq (by first | rfl | simp), Le.eq (by first | rfl | simp), trivial⟩ ⟨⟨_, rfl, LeO.refl _⟩, ⟨_, rfl, LeO.refl _⟩, trivial⟩ rfl (dom0 rfl) ?_
          exact ih.2.2.1 a0 a1 a2 x14 x8 o7 r5 0 
      · refine RT.freeze 7 _ _ _ [(6, sq eI o7)] [] rfl rfl ⟨.inr ⟨_, rfl, by first | exact Nat.le_refl _ | simp, rfl⟩, trivial⟩ trivial rfl (dom0 rfl) ?_
        exact RT.done rfl rfl (Le.refl _) trivial rfl (dom0 rfl)
theorem pileref1_KeyedOf.ok (k : Nat) (a0 : ByteArray) (a1 : Int) (a2 : Int) (r : (List Int)) (h : pileref1_KeyedOf.f k a0 a1 a2 = some r) : Ct Tryd.prog B 29 [.str a0, .int .i64 a1, .int .i64 a2] (ofL []) (sq eI r) (ofL []) := by
  refine Ct.of (Y := (fam Tryd.f29 [13, 16] [] [] (fun r : (List Int) => sq eI r) (fun r => []))) Tryd.func29 rfl Tryd.call29 rfl rfl ?_ r h
  unfold pileref1_KeyedOf.f
  refine RS.go ?_
  refine RT.goto rfl ?_
  refine RS.ghost 7 7 eI.w (rep eI []) rfl rfl ?_
  refine RS.weak [(0, .str a0), (1, .int .i64 a1), (2, .int .i64 a2), (7, .osl 7 eI.w 0 ([] : List Int).length ([] : List Int).length), (8, .int .i64 0), (13, .int .i64 (a0.size : Int)), (14, .int .i64 0)] [(7, bufE eI ([] : List Int))] ⟨Le.eq (by first | rfl | simp), Le.eq (by first | rfl | simp), Le.eq (by first | rfl | simp), Le.oslN rfl (by first | rfl | simp), Le.eq (by first | rfl | simp), Le.eq (by first | rfl | simp), Le.eq (by first | rfl | simp), trivial⟩ ⟨⟨_, rfl, LeO.refl _⟩, trivial⟩ rfl (dom0 rfl) ?_
  exact (pileref1_KeyedOf.loops k).2.2.2 a0 a1 a2 0 0 [] 
/-! ### pileref1_UnitsOf: function 38 -/
def pileref1_UnitsOf.l0 : Nat → Int → List Int → Int → Int → Option (Int)
  | 0, _, _, _, _ => Option.none
  | k + 1, x3, x7, x8, x9 => (if x9 < x8 then (if 0 ≤ x9 then (if x9 < (x7.length : Int) then pileref1_UnitsOf.l0 k (wrap64 (x3 + (rd x7 x9))) x7 x8 (wrap64 (x9 + 1)) else Option.none) else Option.none) else Option.some x3)
def pileref1_UnitsOf.f (k : Nat) (a0 : ByteArray) : Option (Int) := ((pileref1_KeyedOf.f k a0 1 1).bind fun r1 => pileref1_UnitsOf.l0 k 0 r1 (r1.length : Int) 0)
theorem pileref1_UnitsOf.loops : ∀ k, (∀ (x3 : Int) (x7 : List Int) (x8 : Int) (x9 : Int), RS (fam Tryd.f38 [] [] [] (fun r : Int => .int .i64 r) (fun r => [])) (Func.head Tryd.f38 0) ⟨ofT [(3, .int .i64 x3), (7, sq eI x7), (8, .int .i64 x8), (9, .int .i64 x9)], ofL []⟩ (pileref1_UnitsOf.l0 k x3 x7 x8 x9))
  | 0 => by intro _ _ _ _; simp only [pileref1_UnitsOf.l0]; exact RS.none
  | k + 1 => by
    have ih := pileref1_UnitsOf.loops k
    · intro x3 x7 x8 x9
      simp only [pileref1_UnitsOf.l0]
      refine RS.go ?_
      refine RT.br rfl (fun c4 => ?_) (fun c4 => ?_)
      · refine RT.br rfl (fun c2 => ?_) (fun c2 => RT.none)
        refine RT.br rfl (fun c3 => ?_) (fun c3 => RT.none)
        refine RT.goto rfl ?_
        refine RS.weak [(3, .int .i64 (wrap64 (x3 + (rd x7 x9)))), (7, sq eI x7), (8, .int .i64 x8), (9, .int .i64 (wrap64 (x9 + 1)))] [] ⟨Le.eq (by first | rfl | simp), Le.eq (by first | rfl | simp), Le.eq (by first | rfl | simp), Le.eq (by first | rfl | simp), trivial⟩ trivial rfl (dom0 rfl) ?_
        exact ih (wrap64 (x3 + (rd x7 x9))) x7 x8 (wrap64 (x9 + 1)) 
      · exact RT.done rfl rfl (Le.refl _) trivial rfl (dom0 rfl)
theorem pileref1_UnitsOf.ok (k : Nat) (a0 : ByteArray) (r : Int) (h : pileref1_UnitsOf.f k a0 = some r) : Ct Tryd.prog B 38 [.str a0] (ofL []) (.int .i64 r) (ofL []) := by
  refine Ct.of (Y := (fam Tryd.f38 [] [] [] (fun r : Int => .int .i64 r) (fun r => []))) Tryd.func38 rfl Tryd.call38 rfl rfl ?_ r h
  unfold pileref1_UnitsOf.f
  refine RS.go ?_
  refine RT.call0 rfl (fun _ h => pileref1_KeyedOf.ok k a0 1 1 _ h) (LeL.eq rfl) (fun _ => rfl) (fun r1 => ?_)
  refine RS.go ?_
  refine RT.goto rfl ?_
  refine RS.weak [(3, .int .i64 0), (7, sq eI r1), (8, .int .i64 (r1.length : Int)), (9, .int .i64 0)] [] ⟨Le.eq (by first | rfl | simp), Le.eq (by first | rfl | simp), Le.eq (by first | rfl | simp), Le.eq (by first | rfl | simp), trivial⟩ trivial rfl (dom0 rfl) ?_
  exact pileref1_UnitsOf.loops k 0 r1 (r1.length : Int) 0 
/-! ### key_byCodes: function 86 -/
def key_byCodes.l0 : Nat → List (ByteArray × ByteArray) → Int → Int → List (ByteArray × ByteArray) → Option ((List (ByteArray × ByteArray)))
  | 0, _, _, _, _ => Option.none
  | k + 1, x5, x6, x7, o4 => (if x7 < x6 then (if 0 ≤ x7 then (if x7 < (x5.length : Int) then key_byCodes.l0 k x5 x6 (wrap64 (x7 + 1)) (mput o4 ((rdE e_SS x5 x7).2) ((rdE e_SS x5 x7).1)) else Option.none) else Option.none) else Option.some o4)
def key_byCodes.f (k : Nat) : Option ((List (ByteArray × ByteArray))) := ((key_Codes.f k ).bind fun r1 => key_byCodes.l0 k r1 (r1.length : Int) 0 ([] : List (ByteArray × ByteArray)))
theorem key_byCodes.loops : ∀ k, (∀ (x5 : List (ByteArray × ByteArray)) (x6 : Int) (x7 : Int) (o4 : List (ByteArray × ByteArray)), RS (fam Tryd.f86 [] [] [] (fun r : (List (ByteArray × ByteArray)) => .omap 4) (fun r => [(4, mapE KL.strs (ByteArray.empty : ByteArray) AV.str r)])) (Func.head Tryd.f86 0) ⟨ofT [(1, .omap 4), (5, sq e_SS x5), (6, .int .i64 x6), (7, .int .i64 x7)], ofL [(4, mapE KL.strs (ByteArray.empty : ByteArray) AV.str o4)]⟩ (key_byCodes.l0 k x5 x6 x7 o4))
  | 0 => by intro _ _ _ _; simp only [key_byCodes.l0]; exact RS.none
  | k + 1 => by
    have ih := key_byCodes.loops k
    · intro x5 x6 x7 o4
      simp only [key_byCodes.l0]
      refine RS.go ?_
      refine RT.br rfl (fun c4 => ?_) (fun c4 => ?_)
      · refine RT.br rfl (fun c2 => ?_) (fun c2 => RT.none)
        refine RT.br rfl (fun c3 => ?_) (fun c3 => RT.none)
        refine RT.goto rfl ?_
        refine RS.obj 4 (mapE KL.strs (ByteArray.empty : ByteArray) AV.str (mput o4 ((rdE e_SS x5 x7).2) ((rdE e_SS x5 x7).1))) ⟨_, rfl, LeO.putS⟩ ?_
        refine RS.go ?_
        refine RT.goto rfl ?_
        refine RS.weak [(1, .omap 4), (5, sq e_SS x5), (6, .int .i64 x6), (7, .int .i64 (wrap64 (x7 + 1)))] [(4, mapE KL.strs (ByteArray.empty : ByteArray) AV.str (mput o4 ((rdE e_SS x5 x7).2) ((rdE e_SS x5 x7).1)))] ⟨Le.eq (by first | rfl | simp), Le.eq (by first | rfl | simp), Le.eq (by first | rfl | simp), Le.eq (by first | rfl | simp), trivial⟩ ⟨⟨_, rfl, LeO.refl _⟩, trivial⟩ rfl (dom0 rfl) ?_
        exact ih x5 x6 (wrap64 (x7 + 1)) (mput o4 ((rdE e_SS x5 x7).2) ((rdE e_SS x5 x7).1)) 
      · exact RT.done rfl rfl (Le.refl _) ⟨⟨_, rfl, LeO.refl _⟩, trivial⟩ rfl (dom0 rfl)
theorem key_byCodes.ok (k : Nat) (r : (List (ByteArray × ByteArray))) (h : key_byCodes.f k  = some r) : Ct Tryd.prog B 86 [] (ofL []) (.omap 4) (ofL [(4, mapE KL.strs (ByteArray.empty : ByteArray) AV.str r)]) := by
  refine Ct.of (Y := (fam Tryd.f86 [] [] [] (fun r : (List (ByteArray × ByteArray)) => .omap 4) (fun r => [(4, mapE KL.strs (ByteArray.empty : ByteArray) AV.str r)]))) Tryd.func86 rfl Tryd.call86 rfl rfl ?_ r h
  unfold key_byCodes.f
  refine RS.go ?_
  refine RT.call0 rfl (fun _ h => key_Codes.ok k  _ h) (LeL.eq rfl) (fun _ => rfl) (fun r1 => ?_)
  refine RS.go ?_
  refine RT.goto rfl ?_
  refine RS.weak [(1, .omap 4), (5, sq e_SS r1), (6, .int .i64 (r1.length : Int)), (7, .int .i64 0)] [(4, mapE KL.strs (ByteArray.empty : ByteArray) AV.str ([] : List (ByteArray × ByteArray)))] ⟨Le.eq (by first | rfl | simp), Le.eq (by first | rfl | simp), Le.eq (by first | rfl | simp), Le.eq (by first | rfl | simp), trivial⟩ ⟨⟨_, rfl, LeO.refl _⟩, trivial⟩ rfl (dom0 rfl) ?_
  exact key_byCodes.loops k r1 (r1.length : Int) 0 ([] : List (ByteArray × ByteArray)) 
/-! ### key_isElements: function 87 -/
def key_isElements.f (a0 : ByteArray) : Option (Bool) := (if a0 = (⟨#[]⟩ : ByteArray) then Option.some false else ((strings_Trim.f a0 (⟨#[46, 45]⟩ : ByteArray)).bind fun r1 => Option.some (decide (r1 = (⟨#[]⟩ : ByteArray)))))
theorem key_isElements.ok (a0 : ByteArray) (r : Bool) (h : key_isElements.f a0 = some r) : Ct Tryd.prog B 87 [.str a0] (ofL []) (.bool r) (ofL []) := by
  refine Ct.of (Y := (fam Tryd.f87 [] [] [] (fun r : Bool => .bool r) (fun r => []))) Tryd.func87 rfl Tryd.call87 rfl rfl ?_ r h
  unfold key_isElements.f
  refine RS.go ?_
  refine RT.brN rfl (fun c2 => ?_) (fun c2 => ?_)
  · refine RT.brF rfl ?_
    refine RT.brF rfl ?_
    refine RT.brF rfl ?_
    exact RT.done rfl rfl (Le.refl _) trivial rfl (dom0 rfl)
  · refine RT.brT rfl ?_
    refine RT.call0 rfl (fun _ h => strings_Trim.ok a0 (⟨#[46, 45]⟩ : ByteArray) _ h) (LeL.eq rfl) (fun _ => rfl) (fun r1 => ?_)
    refine RS.go ?_
    refine RT.brT rfl ?_
    refine RT.brT rfl ?_
    exact RT.done rfl rfl (Le.refl _) trivial rfl (dom0 rfl)
/-! ### key_signOf: function 88 -/
def key_signOf.f (m0 : List (ByteArray × ByteArray)) (a1 : ByteArray) : Option (ByteArray) := (if a1 ∈ List.map Prod.fst m0 then Option.some (mget (ByteArray.empty : ByteArray) m0 a1) else Option.some (⟨#[42]⟩ : ByteArray))
theorem key_signOf.ok (m0 : List (ByteArray × ByteArray)) (a1 : ByteArray) (r : ByteArray) (h : key_signOf.f m0 a1 = some r) : Ct Tryd.prog B 88 [.omap 100000, .str a1] (ofL [(100000, mapE KL.strs (ByteArray.empty : ByteArray) AV.str m0)]) (.str r) (ofL [(100000, mapE KL.strs (ByteArray.empty : ByteArray) AV.str m0)]) := by
  refine Ct.of (Y := (fam Tryd.f88 [] [] [(100000, mapE KL.strs (ByteArray.empty : ByteArray) AV.str m0)] (fun r : ByteArray => .str r) (fun r => [(100000, mapE KL.strs (ByteArray.empty : ByteArray) AV.str m0)]))) Tryd.func88 rfl Tryd.call88 rfl rfl ?_ r h
  unfold key_signOf.f
  refine RS.go ?_
  refine RT.req rfl (congrArg AV.str (map_end (l := m0) (d := (ByteArray.empty : ByteArray)))) ?_
  refine RT.br rfl (fun c1 => ?_) (fun c1 => ?_)
  · exact RT.done rfl rfl (Le.refl _) ⟨⟨_, rfl, LeO.refl _⟩, trivial⟩ rfl (dom_of rfl)
  · exact RT.done rfl rfl (Le.refl _) ⟨⟨_, rfl, LeO.refl _⟩, trivial⟩ rfl (dom_of rfl)
/-! ### key_Plain: function 39 -/
mutual
def key_Plain.l1 : Nat → List ByteArray → Int → Int → List ByteArray → List (ByteArray × ByteArray) → ByteArray → List ByteArray → Int → Int → Option (ByteArray × Int)
  | 0, _, _, _, _, _, _, _, _, _ => Option.none
  | k + 1, x16, x17, x18, o5, o14, x8b, x23b, x24b, x25b => (if x25b < x24b then (if 0 ≤ x25b then (if x25b < (x23b.length : Int) then ((key_isElements.f (rdE eS x23b x25b)).bind fun r8 => (if r8 = true then (if ((rdE eS x23b x25b).size : Int) > 10 then Option.some ((⟨#[]⟩ : ByteArray), 3) else ((key_signOf.f o14 (rdE eS x23b x25b)).bind fun r9 => (if x8b.size + r9.size ≤ 9223372036854775807 then key_Plain.l1 k x16 x17 x18 o5 o14 (x8b ++ r9) x23b x24b (wrap64 (x25b + 1)) else Option.none))) else Option.some ((⟨#[]⟩ : ByteArray), 3))) else Option.none) else Option.none) else (if o5.length + 1 ≤ 549755813888 then key_Plain.l0 k x16 x17 (wrap64 (x18 + 1)) (o5 ++ [x8b]) o14 else Option.none))
def key_Plain.l0 : Nat → List ByteArray → Int → Int → List ByteArray → List (ByteArray × ByteArray) → Option (ByteArray × Int)
  | 0, _, _, _, _, _ => Option.none
  | k + 1, x16, x17, x18, o5, o14 => (if x18 < x17 then (if 0 ≤ x18 then (if x18 < (x16.length : Int) then ((strings_Split.f (rdE eS x16 x18) (⟨#[32]⟩ : ByteArray)).bind fun r5 => key_Plain.l1 k x16 x17 x18 o5 o14 (⟨#[]⟩ : ByteArray) r5 (r5.length : Int) 0) else Option.none) else Option.none) else ((strings_Join.f o5 (⟨#[32]⟩ : ByteArray)).bind fun r15 => Option.some (r15, 0)))
end
def key_Plain.f (k : Nat) (a0 : ByteArray) : Option (ByteArray × Int) := (if (a0.size : Int) > 5000 then Option.some ((⟨#[]⟩ : ByteArray), 2) else ((key_byCodes.f k ).bind fun r1 => ((strings_Split.f a0 (⟨#[32, 47, 32]⟩ : ByteArray)).bind fun r2 => key_Plain.l0 k r2 (r2.length : Int) 0 [] r1)))
theorem key_Plain.loops : ∀ k, (∀ (x16 : List ByteArray) (x17 : Int) (x18 : Int) (o5 : List ByteArray) (o14 : List (ByteArray × ByteArray)) (x8b : ByteArray) (x23b : List ByteArray) (x24b : Int) (x25b : Int), RS (fam Tryd.f39 [18] [] [] (fun r : ByteArray × Int => .tup [.str r.1, .int .i64 r.2]) (fun r => [])) (Func.head Tryd.f39 1) ⟨ofT [(4, .omap 14), (5, .osl 5 eS.w 0 o5.length o5.length), (8, .str x8b), (16, sq eS x16), (17, .int .i64 x17), (18, .int .i64 x18), (23, sq eS x23b), (24, .int .i64 x24b), (25, .int .i64 x25b)], ofL [(5, bufE eS o5), (14, mapE KL.strs (ByteArray.empty : ByteArray) AV.str o14)]⟩ (key_Plain.l1 k x16 x17 x18 o5 o14 x8b x23b x24b x25b)) ∧ (∀ (x16 : List ByteArray) (x17 : Int) (x18 : Int) (o5 : List ByteArray) (o14 : List (ByteArray × ByteArray)), RS (fam Tryd.f39 [18] [] [] (fun r : ByteArray × Int => .tup [.str r.1, .int .i64 r.2]) (fun r => [])) (Func.head Tryd.f39 0) ⟨ofT [(4, .omap 14), (5, .osl 5 eS.w 0 o5.length o5.length), (16, sq eS x16), (17, .int .i64 x17), (18, .int .i64 x18)], ofL [(5, bufE eS o5), (14, mapE KL.strs (ByteArray.empty : ByteArray) AV.str o14)]⟩ (key_Plain.l0 k x16 x17 x18 o5 o14))
  | 0 => ⟨by intro _ _ _ _ _ _ _ _ _; simp only [key_Plain.l1]; exact RS.none, by intro _ _ _ _ _; simp only [key_Plain.l0]; exact RS.none⟩
  | k + 1 => by
    have ih := key_Plain.loops k
    refine ⟨?_, ?_⟩
    · intro x16 x17 x18 o5 o14 x8b x23b x24b x25b
      simp only [key_Plain.l1]
      refine RS.go ?_
      refine RT.br rfl (fun c14 => ?_) (fun c14 => ?_)
      · refine RT.br rfl (fun c6 => ?_) (fun c6 => RT.none)
        refine RT.br rfl (fun c7 => ?_) (fun c7 => RT.none)
        refine RT.call0 rfl (fun _ h => key_isElements.ok (rdE eS x23b x25b) _ h) (LeL.eq rfl) (fun _ => rfl) (fun r8 => ?_)
        refine RS.go ?_
        refine RT.brBN rfl (fun c12 => ?_) (fun c12 => ?_)
        · refine RT.brF rfl ?_
          refine RT.brF rfl ?_
          refine RT.brF rfl ?_
          refine RT.br rfl (fun c11 => ?_) (fun c11 => ?_)
          · exact RT.done rfl rfl (Le.tup (LeL.cons (Le.refl _) (LeL.cons (Le.refl _) (LeL.nil)))) trivial rfl (dom0 rfl)
          · refine RT.call rfl (fun _ h => key_signOf.ok o14 (rdE eS x23b x25b) _ h) (fun i => bif Nat.beq i 100000 then 14 else i) (LeL.eq rfl) ⟨⟨_, rfl, LeO.refl _⟩, trivial⟩ (fun _ => rfl) (fun r9 => ?_)
            refine RS.go ?_
            refine RT.br rfl (fun c10 => ?_) (fun c10 => RT.none)
            refine RT.goto rfl ?_
            refine RS.weak [(4, .omap 14), (5, .osl 5 eS.w 0 o5.length o5.length), (8, .str (x8b ++ r9)), (16, sq eS x16), (17, .int .i64 x17), (18, .int .i64 x18), (23, sq eS x23b), (24, .int .i64 x24b), (25, .int .i64 (wrap64 (x25b + 1)))] [(5, bufE eS o5), (14, mapE KL.strs (ByteArray.empty : ByteArray) AV.str o14)] ⟨Le.eq (by first | rfl | simp), Le.oslN rfl (by first | rfl | simp), Le.eq (by first | rfl | simp), Le.eq (by first | rfl | simp), Le.eq (by first | rfl | simp), Le.eq (by first | rfl | simp), Le.eq (by first | rfl | simp), Le.eq (by first | rfl | simp), Le.eq (by first | rfl | simp), trivial⟩ ⟨⟨_, rfl, LeO.refl _⟩, ⟨_, rfl, LeO.refl _⟩, trivial⟩ rfl (dom0 rfl) ?_
            exact ih.1 x16 x17 x18 o5 o14 (x8b ++ r9) x23b x24b (wrap64 (x25b + 1)) 
        · refine RT.brT rfl ?_
          refine RT.brT rfl ?_
          refine RT.brT rfl ?_
          refine RT.brT rfl ?_
          exact RT.done rfl rfl (Le.tup (LeL.cons (Le.refl _) (LeL.cons (Le.refl _) (LeL.nil)))) trivial rfl (dom0 rfl)
      · refine RT.goto rfl ?_
        refine RS.slot 45 (sq eS [x8b]) (Le.lit (E := eS) (l := [x8b]) (cells_of rfl)) ?_
        refine RS.go ?_
        refine RT.req rfl ⟨by first | rfl | simp, by first | exact Nat.le_refl _ | simp⟩ ?_
        refine RT.not rfl (by simp <;> omega) ?_
        refine RT.br rfl (fun c13 => ?_) (fun _ => RT.none)
        refine RT.goto rfl ?_
        refine RS.obj 5 (bufE eS (o5 ++ [x8b])) ⟨_, rfl, LeO.app (l := o5) (m := [x8b]) fun _ _ _ _ => rfl⟩ ?_
        refine RS.slot 46 (.osl 5 eS.w 0 (o5 ++ [x8b]).length (o5 ++ [x8b]).length) (Le.oslN rfl (by simp)) ?_
        refine RS.go ?_
        refine RT.goto rfl ?_
        refine RS.weak [(4, .omap 14), (5, .osl 5 eS.w 0 (o5 ++ [x8b]).length (o5 ++ [x8b]).length), (16, sq eS x16), (17, .int .i64 x17), (18, .int .i64 (wrap64 (x18 + 1)))] [(5, bufE eS (o5 ++ [x8b])), (14, mapE KL.strs (ByteArray.empty : ByteArray) AV.str o14)] ⟨Le.eq (by first | rfl | simp), Le.oslN rfl (by first | rfl | simp), Le.eq (by first | rfl | simp), Le.eq (by first | rfl | simp), Le.eq (by first | rfl | simp), trivial⟩ ⟨⟨_, rfl, LeO.refl _⟩, ⟨_, rfl, LeO.refl _⟩, trivial⟩ rfl (dom0 rfl) ?_
        exact ih.2 x16 x17 (wrap64 (x18 + 1)) (o5 ++ [x8b]) o14 
    · intro x16 x17 x18 o5 o14
      simp only [key_Plain.l0]
      refine RS.go ?_
      refine RT.br rfl (fun c16 => ?_) (fun c16 => ?_)
      · refine RT.br rfl (fun c3 => ?_) (fun c3 => RT.none)
        refine RT.br rfl (fun c4 => ?_) (fun c4 => RT.none)
        refine RT.call0 rfl (fun _ h => strings_Split.ok (rdE eS x16 x18) (⟨#[32]⟩ : ByteArray) _ h) (LeL.eq rfl) (fun _ => rfl) (fun r5 => ?_)
        refine RS.go ?_
        refine RT.goto rfl ?_
        refine RS.weak [(4, .omap 14), (5, .osl 5 eS.w 0 o5.length o5.length), (8, .str (⟨#[]⟩ : ByteArray)), (16, sq eS x16), (17, .int .i64 x17), (18, .int .i64 x18), (23, sq eS r5), (24, .int .i64 (r5.length : Int)), (25, .int .i64 0)] [(5, bufE eS o5), (14, mapE KL.strs (ByteArray.empty : ByteArray) AV.str o14)] ⟨Le.eq (by first | rfl | simp), Le.oslN rfl (by first | rfl | simp), Le.eq (by first | rfl | simp), Le.eq (by first | rfl | simp), Le.eq (by first | rfl | simp), Le.eq (by first | rfl | simp), Le.eq (by first | rfl | simp), Le.eq (by first | rfl | simp), Le.eq (by first | rfl | simp), trivial⟩ ⟨⟨_, rfl, LeO.refl _⟩, ⟨_, rfl, LeO.refl _⟩, trivial⟩ rfl (dom0 rfl) ?_
        exact ih.1 x16 x17 x18 o5 o14 (⟨#[]⟩ : ByteArray) r5 (r5.length : Int) 0 
      · refine RT.goto rfl ?_
        refine RS.freeze 5 _ _ _ [(5, sq eS o5)] [] rfl ⟨.inr ⟨_, rfl, by first | exact Nat.le_refl _ | simp, rfl⟩, trivial⟩ trivial rfl (dom0 rfl) ?_
        refine RS.region ?_
        refine RS.go ?_
        refine RT.call0 rfl (fun _ h => strings_Join.ok o5 (⟨#[32]⟩ : ByteArray) _ h) (LeL.eq rfl) (fun _ => rfl) (fun r15 => ?_)
        refine RS.go ?_
        exact RT.done rfl rfl (Le.tup (LeL.cons (Le.refl _) (LeL.cons (Le.refl _) (LeL.nil)))) trivial rfl (dom0 rfl)
theorem key_Plain.ok (k : Nat) (a0 : ByteArray) (r : ByteArray × Int) (h : key_Plain.f k a0 = some r) : Ct Tryd.prog B 39 [.str a0] (ofL []) (.tup [.str r.1, .int .i64 r.2]) (ofL []) := by
  refine Ct.of (Y := (fam Tryd.f39 [18] [] [] (fun r : ByteArray × Int => .tup [.str r.1, .int .i64 r.2]) (fun r => []))) Tryd.func39 rfl Tryd.call39 rfl rfl ?_ r h
  unfold key_Plain.f
  refine RS.go ?_
  refine RT.br rfl (fun c17 => ?_) (fun c17 => ?_)
  · exact RT.done rfl rfl (Le.tup (LeL.cons (Le.refl _) (LeL.cons (Le.refl _) (LeL.nil)))) trivial rfl (dom0 rfl)
  · refine RT.call rfl (fun _ h => key_byCodes.ok k  _ h) (fun i => bif Nat.beq i 4 then 14 else i) (LeL.eq rfl) trivial (fun _ => rfl) (fun r1 => ?_)
    refine RS.go ?_
    refine RT.call0 rfl (fun _ h => strings_Split.ok a0 (⟨#[32, 47, 32]⟩ : ByteArray) _ h) (LeL.eq rfl) (fun _ => rfl) (fun r2 => ?_)
    refine RS.go ?_
    refine RT.goto rfl ?_
    refine RS.ghost 5 5 eS.w (rep eS []) rfl rfl ?_
    refine RS.weak [(4, .omap 14), (5, .osl 5 eS.w 0 ([] : List ByteArray).length ([] : List ByteArray).length), (16, sq eS r2), (17, .int .i64 (r2.length : Int)), (18, .int .i64 0)] [(5, bufE eS ([] : List ByteArray)), (14, mapE KL.strs (ByteArray.empty : ByteArray) AV.str r1)] ⟨Le.eq (by first | rfl | simp), Le.oslN rfl (by first | rfl | simp), Le.eq (by first | rfl | simp), Le.eq (by first | rfl | simp), Le.eq (by first | rfl | simp), trivial⟩ ⟨⟨_, rfl, LeO.refl _⟩, ⟨_, rfl, LeO.refl _⟩, trivial⟩ rfl (dom0 rfl) ?_
    exact (key_Plain.loops k).2 r2 (r2.length : Int) 0 [] r1 
/-! ### pileref1_in: function 64 -/
def pileref1_in.f (a0 : Int) (a1 : Int) (a2 : Int) : Option (Bool) := (if a1 ≤ a0 then Option.some (decide (a0 ≤ a2)) else Option.some false)
theorem pileref1_in.ok (a0 : Int) (a1 : Int) (a2 : Int) (r : Bool) (h : pileref1_in.f a0 a1 a2 = some r) : Ct Tryd.prog B 64 [.int .i64 a0, .int .i64 a1, .int .i64 a2] (ofL []) (.bool r) (ofL []) := by
  refine Ct.of (Y := (fam Tryd.f64 [] [] [] (fun r : Bool => .bool r) (fun r => []))) Tryd.func64 rfl Tryd.call64 rfl rfl ?_ r h
  unfold pileref1_in.f
  refine RS.go ?_
  refine RT.br rfl (fun c1 => ?_) (fun c1 => ?_)
  · refine RT.brT rfl ?_
    refine RT.brT rfl ?_
    refine RT.brT rfl ?_
    exact RT.done rfl rfl (Le.refl _) trivial rfl (dom0 rfl)
  · refine RT.brF rfl ?_
    refine RT.brF rfl ?_
    refine RT.brF rfl ?_
    exact RT.done rfl rfl (Le.refl _) trivial rfl (dom0 rfl)
/-! ### pileref1_signOf: function 69 -/
def pileref1_signOf.l0 : Nat → ByteArray → List (ByteArray × ByteArray) → Int → Int → Option (ByteArray)
  | 0, _, _, _, _ => Option.none
  | k + 1, a0, x5, x6, x7 => (if x7 < x6 then (if 0 ≤ x7 then (if x7 < (x5.length : Int) then (if (rdE e_SS x5 x7).2 = a0 then Option.some ((rdE e_SS x5 x7).1) else pileref1_signOf.l0 k a0 x5 x6 (wrap64 (x7 + 1))) else Option.none) else Option.none) else Option.some (⟨#[42]⟩ : ByteArray))
def pileref1_signOf.f (k : Nat) (a0 : ByteArray) : Option (ByteArray) := ((pileref1_CodesOf.f k ).bind fun r1 => pileref1_signOf.l0 k a0 r1 (r1.length : Int) 0)
theorem pileref1_signOf.loops : ∀ k, (∀ (a0 : ByteArray) (x5 : List (ByteArray × ByteArray)) (x6 : Int) (x7 : Int), RS (fam Tryd.f69 [] [] [] (fun r : ByteArray => .str r) (fun r => [])) (Func.head Tryd.f69 0) ⟨ofT [(0, .str a0), (5, sq e_SS x5), (6, .int .i64 x6), (7, .int .i64 x7)], ofL []⟩ (pileref1_signOf.l0 k a0 x5 x6 x7))
  | 0 => by intro _ _ _ _; simp only [pileref1_signOf.l0]; exact RS.none
  | k + 1 => by
    have ih := pileref1_signOf.loops k
    · intro a0 x5 x6 x7
      simp only [pileref1_signOf.l0]
      refine RS.go ?_
      refine RT.br rfl (fun c5 => ?_) (fun c5 => ?_)
      · refine RT.br rfl (fun c2 => ?_) (fun c2 => RT.none)
        refine RT.br rfl (fun c3 => ?_) (fun c3 => RT.none)
        refine RT.br rfl (fun c4 => ?_) (fun c4 => ?_)
        · exact RT.done rfl rfl (Le.refl _) trivial rfl (dom0 rfl)
        · refine RT.goto rfl ?_
          refine RS.weak [(0, .str a0), (5, sq e_SS x5), (6, .int .i64 x6), (7, .int .i64 (wrap64 (x7 + 1)))] [] ⟨Le.eq (by first | rfl | simp), Le.eq (by first | rfl | simp), Le.eq (by first | rfl | simp), Le.eq (by first | rfl | simp), trivial⟩ trivial rfl (dom0 rfl) ?_
          exact ih a0 x5 x6 (wrap64 (x7 + 1)) 
      · exact RT.done rfl rfl (Le.refl _) trivial rfl (dom0 rfl)
theorem pileref1_signOf.ok (k : Nat) (a0 : ByteArray) (r : ByteArray) (h : pileref1_signOf.f k a0 = some r) : Ct Tryd.prog B 69 [.str a0] (ofL []) (.str r) (ofL []) := by
  refine Ct.of (Y := (fam Tryd.f69 [] [] [] (fun r : ByteArray => .str r) (fun r => []))) Tryd.func69 rfl Tryd.call69 rfl rfl ?_ r h
  unfold pileref1_signOf.f
  refine RS.go ?_
  refine RT.call0 rfl (fun _ h => pileref1_CodesOf.ok k  _ h) (LeL.eq rfl) (fun _ => rfl) (fun r1 => ?_)
  refine RS.go ?_
  refine RT.goto rfl ?_
  refine RS.weak [(0, .str a0), (5, sq e_SS r1), (6, .int .i64 (r1.length : Int)), (7, .int .i64 0)] [] ⟨Le.eq (by first | rfl | simp), Le.eq (by first | rfl | simp), Le.eq (by first | rfl | simp), Le.eq (by first | rfl | simp), trivial⟩ trivial rfl (dom0 rfl) ?_
  exact pileref1_signOf.loops k a0 r1 (r1.length : Int) 0 
/-! ### pileref1_PlainOf: function 40 -/
mutual
def pileref1_PlainOf.l1 : Nat → List ByteArray → Int → Int → ByteArray → List ByteArray → Int → Int → Option (ByteArray × Int)
  | 0, _, _, _, _, _, _, _ => Option.none
  | k + 1, x13, x14, x15, x4b, x25b, x26b, x27b => (if x27b < x26b then (if 0 ≤ x27b then (if x27b < (x25b.length : Int) then ((pileref1_in.f ((rdE eS x25b x27b).size : Int) 1 10).bind fun r8 => (if r8 = true then ((strings_Trim.f (rdE eS x25b x27b) (⟨#[46, 45]⟩ : ByteArray)).bind fun r9 => (if r9 = (⟨#[]⟩ : ByteArray) then ((pileref1_signOf.f k (rdE eS x25b x27b)).bind fun r10 => (if x4b.size + r10.size ≤ 9223372036854775807 then pileref1_PlainOf.l1 k x13 x14 x15 (x4b ++ r10) x25b x26b (wrap64 (x27b + 1)) else Option.none)) else Option.some ((⟨#[]⟩ : ByteArray), 3))) else Option.some ((⟨#[]⟩ : ByteArray), 3))) else Option.none) else Option.none) else pileref1_PlainOf.l0 k x4b x13 x14 (wrap64 (x15 + 1)))
def pileref1_PlainOf.j9 : Nat → List ByteArray → Int → Int → ByteArray → Option (ByteArray × Int)
  | 0, _, _, _, _ => Option.none
  | k + 1, x13, x14, x15, x4j9 => ((strings_Split.f (rdE eS x13 x15) (⟨#[32]⟩ : ByteArray)).bind fun r5 => pileref1_PlainOf.l1 k x13 x14 x15 x4j9 r5 (r5.length : Int) 0)
def pileref1_PlainOf.l0 : Nat → ByteArray → List ByteArray → Int → Int → Option (ByteArray × Int)
  | 0, _, _, _, _ => Option.none
  | k + 1, x4, x13, x14, x15 => (if x15 < x14 then (if 0 ≤ x15 then (if x15 < (x13.length : Int) then (if x15 > 0 then (if x4.size + (⟨#[32]⟩ : ByteArray).size ≤ 9223372036854775807 then pileref1_PlainOf.j9 k x13 x14 x15 (x4 ++ (⟨#[32]⟩ : ByteArray)) else Option.none) else pileref1_PlainOf.j9 k x13 x14 x15 x4) else Option.none) else Option.none) else Option.some (x4, 0))
end
def pileref1_PlainOf.f (k : Nat) (a0 : ByteArray) : Option (ByteArray × Int) := (if (a0.size : Int) > 5000 then Option.some ((⟨#[]⟩ : ByteArray), 2) else ((strings_Split.f a0 (⟨#[32, 47, 32]⟩ : ByteArray)).bind fun r1 => pileref1_PlainOf.l0 k (⟨#[]⟩ : ByteArray) r1 (r1.length : Int) 0))
theorem pileref1_PlainOf.loops : ∀ k, (∀ (x13 : List ByteArray) (x14 : Int) (x15 : Int) (x4b : ByteArray) (x25b : List ByteArray) (x26b : Int) (x27b : Int), RS (fam Tryd.f40 [9] [] [] (fun r : ByteArray × Int => .tup [.str r.1, .int .i64 r.2]) (fun r => [])) (Func.head Tryd.f40 1) ⟨ofT [(4, .str x4b), (13, sq eS x13), (14, .int .i64 x14), (15, .int .i64 x15), (25, sq eS x25b), (26, .int .i64 x26b), (27, .int .i64 x27b)], ofL []⟩ (pileref1_PlainOf.l1 k x13 x14 x15 x4b x25b x26b x27b)) ∧ (∀ (x13 : List ByteArray) (x14 : Int) (x15 : Int) (x4j9 : ByteArray), RS (fam Tryd.f40 [9] [] [] (fun r : ByteArray × Int => .tup [.str r.1, .int .i64 r.2]) (fun r => [])) (Func.reg Tryd.f40 9) ⟨ofT [(4, .str x4j9), (6, .str (rdE eS x13 x15)), (13, sq eS x13), (14, .int .i64 x14), (15, .int .i64 x15)], ofL []⟩ (pileref1_PlainOf.j9 k x13 x14 x15 x4j9)) ∧ (∀ (x4 : ByteArray) (x13 : List ByteArray) (x14 : Int) (x15 : Int), RS (fam Tryd.f40 [9] [] [] (fun r : ByteArray × Int => .tup [.str r.1, .int .i64 r.2]) (fun r => [])) (Func.head Tryd.f40 0) ⟨ofT [(4, .str x4), (13, sq eS x13), (14, .int .i64 x14), (15, .int .i64 x15)], ofL []⟩ (pileref1_PlainOf.l0 k x4 x13 x14 x15))
  | 0 => ⟨by intro _ _ _ _ _ _ _; simp only [pileref1_PlainOf.l1]; exact RS.none, by intro _ _ _ _; simp only [pileref1_PlainOf.j9]; exact RS.none, by intro _ _ _ _; simp only [pileref1_PlainOf.l0]; exact RS.none⟩
  | k + 1 => by
    have ih := pileref1_PlainOf.loops k
    refine ⟨?_, ?_, ?_⟩
    · intro x13 x14 x15 x4b x25b x26b x27b
      simp only [pileref1_PlainOf.l1]
      refine RS.go ?_
      refine RT.br rfl (fun c14 => ?_) (fun c14 => ?_)
      · refine RT.br rfl (fun c6 => ?_) (fun c6 => RT.none)
        refine RT.br rfl (fun c7 => ?_) (fun c7 => RT.none)
        refine RT.call0 rfl (fun _ h => pileref1_in.ok ((rdE eS x25b x27b).size : Int) 1 10 _ h) (LeL.eq rfl) (fun _ => rfl) (fun r8 => ?_)
        refine RS.go ?_
        refine RT.brBN rfl (fun c13 => ?_) (fun c13 => ?_)
        · refine RT.brF rfl ?_
          refine RT.call0 rfl (fun _ h => strings_Trim.ok (rdE eS x25b x27b) (⟨#[46, 45]⟩ : ByteArray) _ h) (LeL.eq rfl) (fun _ => rfl) (fun r9 => ?_)
          refine RS.go ?_
          refine RT.brF rfl ?_
          refine RT.brF rfl ?_
          refine RT.brN rfl (fun c12 => ?_) (fun c12 => ?_)
          · refine RT.call0 rfl (fun _ h => pileref1_signOf.ok k (rdE eS x25b x27b) _ h) (LeL.eq rfl) (fun _ => rfl) (fun r10 => ?_)
            refine RS.go ?_
            refine RT.br rfl (fun c11 => ?_) (fun c11 => RT.none)
            refine RT.goto rfl ?_
            refine RS.weak [(4, .str (x4b ++ r10)), (13, sq eS x13), (14, .int .i64 x14), (15, .int .i64 x15), (25, sq eS x25b), (26, .int .i64 x26b), (27, .int .i64 (wrap64 (x27b + 1)))] [] ⟨Le.eq (by first | rfl | simp), Le.eq (by first | rfl | simp), Le.eq (by first | rfl | simp), Le.eq (by first | rfl | simp), Le.eq (by first | rfl | simp), Le.eq (by first | rfl | simp), Le.eq (by first | rfl | simp), trivial⟩ trivial rfl (dom0 rfl) ?_
            exact ih.1 x13 x14 x15 (x4b ++ r10) x25b x26b (wrap64 (x27b + 1)) 
          · exact RT.done rfl rfl (Le.tup (LeL.cons (Le.refl _) (LeL.cons (Le.refl _) (LeL.nil)))) trivial rfl (dom0 rfl)
        · refine RT.brT rfl ?_
          refine RT.brT rfl ?_
          refine RT.brT rfl ?_
          refine RT.brT rfl ?_
          exact RT.done rfl rfl (Le.tup (LeL.cons (Le.refl _) (LeL.cons (Le.refl _) (LeL.nil)))) trivial rfl (dom0 rfl)
      · refine RT.goto rfl ?_
        refine RS.weak [(4, .str x4b), (13, sq eS x13), (14, .int .i64 x14), (15, .int .i64 (wrap64 (x15 + 1)))] [] ⟨Le.eq (by first | rfl | simp), Le.eq (by first | rfl | simp), Le.eq (by first | rfl | simp), Le.eq (by first | rfl | simp), trivial⟩ trivial rfl (dom0 rfl) ?_
        exact ih.2.2 x4b x13 x14 (wrap64 (x15 + 1)) 
    · intro x13 x14 x15 x4j9
      simp only [pileref1_PlainOf.j9]
      refine RS.region ?_
      refine RS.go ?_
      refine RT.call0 rfl (fun _ h => strings_Split.ok (rdE eS x13 x15) (⟨#[32]⟩ : ByteArray) _ h) (LeL.eq rfl) (fun _ => rfl) (fun r5 => ?_)
      refine RS.go ?_
      refine RT.goto rfl ?_
      refine RS.weak [(4, .str x4j9), (13, sq eS x13), (14, .int .i64 x14), (15, .int .i64 x15), (25, sq eS r5), (26, .int .i64 (r5.length : Int)), (27, .int .i64 0)] [] ⟨Le.eq (by first | rfl | simp), Le.eq (by first | rfl | simp), Le.eq (by first | rfl | simp), Le.eq (by first | rfl | simp), Le.eq (by first | rfl | simp), Le.eq (by first | rfl | simp), Le.eq (by first | rfl | simp), trivial⟩ trivial rfl (dom0 rfl) ?_
      exact ih.1 x13 x14 x15 x4j9 r5 (r5.length : Int) 0 
    · intro x4 x13 x14 x15
      simp only [pileref1_PlainOf.l0]
      refine RS.go ?_
      refine RT.br rfl (fun c16 => ?_) (fun c16 => ?_)
      · refine RT.br rfl (fun c2 => ?_) (fun c2 => RT.none)
        refine RT.br rfl (fun c3 => ?_) (fun c3 => RT.none)
        refine RT.br rfl (fun c15 => ?_) (fun c15 => ?_)
        · refine RT.br rfl (fun c4 => ?_) (fun c4 => RT.none)
          refine RT.goto rfl ?_
          refine RS.weak [(4, .str (x4 ++ (⟨#[32]⟩ : ByteArray))), (6, .str (rdE eS x13 x15)), (13, sq eS x13), (14, .int .i64 x14), (15, .int .i64 x15)] [] ⟨Le.eq (by first | rfl | simp), Le.eq (by first | rfl | simp), Le.eq (by first | rfl | simp), Le.eq (by first | rfl | simp), Le.eq (by first | rfl | simp), trivial⟩ trivial rfl (dom0 rfl) ?_
          exact ih.2.1 x13 x14 x15 (x4 ++ (⟨#[32]⟩ : ByteArray)) 
        · refine RT.goto rfl ?_
          refine RS.weak [(4, .str x4), (6, .str (rdE eS x13 x15)), (13, sq eS x13), (14, .int .i64 x14), (15, .int .i64 x15)] [] ⟨Le.eq (by first | rfl | simp), Le.eq (by first | rfl | simp), Le.eq (by first | rfl | simp), Le.eq (by first | rfl | simp), Le.eq (by first | rfl | simp), trivial⟩ trivial rfl (dom0 rfl) ?_
          exact ih.2.1 x13 x14 x15 x4 
      · exact RT.done rfl rfl (Le.tup (LeL.cons (Le.refl _) (LeL.cons (Le.refl _) (LeL.nil)))) trivial rfl (dom0 rfl)
theorem pileref1_PlainOf.ok (k : Nat) (a0 : ByteArray) (r : ByteArray × Int) (h : pileref1_PlainOf.f k a0 = some r) : Ct Tryd.prog B 40 [.str a0] (ofL []) (.tup [.str r.1, .int .i64 r.2]) (ofL []) := by
  refine Ct.of (Y := (fam Tryd.f40 [9] [] [] (fun r : ByteArray × Int => .tup [.str r.1, .int .i64 r.2]) (fun r => []))) Tryd.func40 rfl Tryd.call40 rfl rfl ?_ r h
  unfold pileref1_PlainOf.f
  refine RS.go ?_
  refine RT.br rfl (fun c17 => ?_) (fun c17 => ?_)
  · exact RT.done rfl rfl (Le.tup (LeL.cons (Le.refl _) (LeL.cons (Le.refl _) (LeL.nil)))) trivial rfl (dom0 rfl)
  · refine RT.call0 rfl (fun _ h => strings_Split.ok a0 (⟨#[32, 47, 32]⟩ : ByteArray) _ h) (LeL.eq rfl) (fun _ => rfl) (fun r1 => ?_)
    refine RS.go ?_
    refine RT.goto rfl ?_
    refine RS.weak [(4, .str (⟨#[]⟩ : ByteArray)), (13, sq eS r1), (14, .int .i64 (r1.length : Int)), (15, .int .i64 0)] [] ⟨Le.eq (by first | rfl | simp), Le.eq (by first | rfl | simp), Le.eq (by first | rfl | simp), Le.eq (by first | rfl | simp), trivial⟩ trivial rfl (dom0 rfl) ?_
    exact (pileref1_PlainOf.loops k).2.2 (⟨#[]⟩ : ByteArray) r1 (r1.length : Int) 0 
/-! ### kit_Outside: function 55 -/
def kit_Outside.f (a0 : Int) (a1 : Int) (a2 : Int) : Option (Bool) := (if a0 < a1 then Option.some true else Option.some (decide (a0 > a2)))
theorem kit_Outside.ok (a0 : Int) (a1 : Int) (a2 : Int) (r : Bool) (h : kit_Outside.f a0 a1 a2 = some r) : Ct Tryd.prog B 55 [.int .i64 a0, .int .i64 a1, .int .i64 a2] (ofL []) (.bool r) (ofL []) := by
  refine Ct.of (Y := (fam Tryd.f55 [] [] [] (fun r : Bool => .bool r) (fun r => []))) Tryd.func55 rfl Tryd.call55 rfl rfl ?_ r h
  unfold kit_Outside.f
  refine RS.go ?_
  refine RT.br rfl (fun c1 => ?_) (fun c1 => ?_)
  · refine RT.brT rfl ?_
    refine RT.brT rfl ?_
    refine RT.brT rfl ?_
    exact RT.done rfl rfl (Le.refl _) trivial rfl (dom0 rfl)
  · refine RT.brF rfl ?_
    refine RT.brF rfl ?_
    refine RT.brF rfl ?_
    exact RT.done rfl rfl (Le.refl _) trivial rfl (dom0 rfl)
/-! ### key_Unit: function 41 -/
def key_Unit.f (a0 : Int) : Option (Int × Int) := ((kit_Outside.f a0 1 100).bind fun r1 => (if r1 = true then Option.some (0, 1) else (if a0 = 0 then Option.none else Option.some (wrap64 (Int.tdiv 1200 a0), 0))))
theorem key_Unit.ok (a0 : Int) (r : Int × Int) (h : key_Unit.f a0 = some r) : Ct Tryd.prog B 41 [.int .i64 a0] (ofL []) (.tup [.int .i64 r.1, .int .i64 r.2]) (ofL []) := by
  refine Ct.of (Y := (fam Tryd.f41 [] [] [] (fun r : Int × Int => .tup [.int .i64 r.1, .int .i64 r.2]) (fun r => []))) Tryd.func41 rfl Tryd.call41 rfl rfl ?_ r h
  unfold key_Unit.f
  refine RS.go ?_
  refine RT.call0 rfl (fun _ h => kit_Outside.ok a0 1 100 _ h) (LeL.eq rfl) (fun _ => rfl) (fun r1 => ?_)
  refine RS.go ?_
  refine RT.brB rfl (fun c3 => ?_) (fun c3 => ?_)
  · exact RT.done rfl rfl (Le.tup (LeL.cons (Le.refl _) (LeL.cons (Le.refl _) (LeL.nil)))) trivial rfl (dom0 rfl)
  · refine RT.br rfl (fun _ => RT.none) (fun c2 => ?_)
    exact RT.done rfl rfl (Le.tup (LeL.cons (Le.refl _) (LeL.cons (Le.refl _) (LeL.nil)))) trivial rfl (dom0 rfl)
/-! ### pileref1_SpanFault: function 18 -/
def pileref1_SpanFault.f (a0 : Int) (a1 : Int) (a2 : Int) : Option (Int) := ((pileref1_in.f a0 a1 a2).bind fun r1 => (if r1 = true then Option.some 0 else Option.some 1))
theorem pileref1_SpanFault.ok (a0 : Int) (a1 : Int) (a2 : Int) (r : Int) (h : pileref1_SpanFault.f a0 a1 a2 = some r) : Ct Tryd.prog B 18 [.int .i64 a0, .int .i64 a1, .int .i64 a2] (ofL []) (.int .i64 r) (ofL []) := by
  refine Ct.of (Y := (fam Tryd.f18 [] [] [] (fun r : Int => .int .i64 r) (fun r => []))) Tryd.func18 rfl Tryd.call18 rfl rfl ?_ r h
  unfold pileref1_SpanFault.f
  refine RS.go ?_
  refine RT.call0 rfl (fun _ h => pileref1_in.ok a0 a1 a2 _ h) (LeL.eq rfl) (fun _ => rfl) (fun r1 => ?_)
  refine RS.go ?_
  refine RT.brBN rfl (fun c2 => ?_) (fun c2 => ?_)
  · exact RT.done rfl rfl (Le.refl _) trivial rfl (dom0 rfl)
  · exact RT.done rfl rfl (Le.refl _) trivial rfl (dom0 rfl)
/-! ### kit_Lowest: function 89 -/
def kit_Lowest.k0 : List DK := [⟨[14], [], [6], []⟩, ⟨[11], [], [5], []⟩, ⟨[12, 13], [], [14], []⟩, ⟨[6], [], [13], []⟩, ⟨[5], [], [12], []⟩, ⟨[6], [], [11], []⟩]
def kit_Lowest.k1 : List Nat := [0, 0, 0, 6, 3, 31]
def kit_Lowest.k2 : List DK := [⟨[4, 21], [4], [], [4]⟩, ⟨[17, 20], [], [21], []⟩, ⟨[18, 19], [], [20], []⟩, ⟨[5], [], [19], []⟩, ⟨[1], [], [18], []⟩, ⟨[15, 16], [], [17], []⟩, ⟨[5], [], [16], []⟩, ⟨[0], [], [15], []⟩]
def kit_Lowest.k3 : List Nat := [0, 0, 3, 0, 0, 24, 63, 127]
def kit_Lowest.l0 : Nat → Int → Int → Int → Int → Option (Int × Int)
  | 0, _, _, _, _ => Option.none
  | k + 1, a0, a1, x5, x6 => (if x6 = 0 then (if x5 = 0 then Option.none else (if x5 = 0 then Option.none else Option.some (wrap64 (Int.tdiv a0 x5), wrap64 (Int.tdiv a1 x5)))) else (if x6 = 0 then Option.none else kit_Lowest.l0 k a0 a1 x6 (Int.tmod x5 x6)))
def kit_Lowest.f (k : Nat) (a0 : Int) (a1 : Int) : Option (Int × Int) := kit_Lowest.l0 k a0 a1 a0 a1
theorem kit_Lowest.loops : ∀ k, (∀ (a0 : Int) (a1 : Int) (x5 : Int) (x6 : Int), RS (fam Tryd.f89 [] [] [] (fun r : Int × Int => .agg [.int .i64 r.1, .int .i64 r.2]) (fun r => [])) (Func.head Tryd.f89 0) ⟨ofT [(0, .int .i64 a0), (1, .int .i64 a1), (4, .ref 4 0 0 0 2), (5, .int .i64 x5), (6, .int .i64 x6)], ofL [(4, .box [.int .i64 0, .int .i64 0])]⟩ (kit_Lowest.l0 k a0 a1 x5 x6))
  | 0 => by intro _ _ _ _; simp only [kit_Lowest.l0]; exact RS.none
  | k + 1 => by
    have ih := kit_Lowest.loops k
    · intro a0 a1 x5 x6
      simp only [kit_Lowest.l0]
      refine RS.go ?_
      refine RT.brN rfl (fun c4 => ?_) (fun c4 => ?_)
      · refine RT.goto rfl ?_
        refine RS.draw rfl ?_
        refine RD.br rfl (fun _ => RD.none) (fun c3 => ?_)
        refine RD.br rfl (fun _ => RD.none) (fun c2 => ?_)
        refine RD.fin kit_Lowest.k2 kit_Lowest.k3 rfl rfl (by decide +kernel) ?_
        refine RS.go ?_
        exact RT.done rfl rfl (Le.refl _) trivial rfl (dom0 rfl)
      · refine RT.goto rfl ?_
        refine RS.draw rfl ?_
        refine RD.br rfl (fun _ => RD.none) (fun c1 => ?_)
        refine RD.fin kit_Lowest.k0 kit_Lowest.k1 rfl rfl (by decide +kernel) ?_
        refine RS.go ?_
        refine RT.goto rfl ?_
        refine RS.weak [(0, .int .i64 a0), (1, .int .i64 a1), (4, .ref 4 0 0 0 2), (5, .int .i64 x6), (6, .int .i64 (Int.tmod x5 x6))] [(4, .box [.int .i64 0, .int .i64 0])] ⟨Le.eq (by first | rfl | simp), Le.eq (by first | rfl | simp), Le.eq (by first | rfl | simp), Le.eq (by first | rfl | simp), Le.eq (by first | rfl | simp), trivial⟩ ⟨⟨_, rfl, LeO.refl _⟩, trivial⟩ rfl (dom0 rfl) ?_
        exact ih a0 a1 x6 (Int.tmod x5 x6) 
theorem kit_Lowest.ok (k : Nat) (a0 : Int) (a1 : Int) (r : Int × Int) (h : kit_Lowest.f k a0 a1 = some r) : Ct Tryd.prog B 89 [.int .i64 a0, .int .i64 a1] (ofL []) (.agg [.int .i64 r.1, .int .i64 r.2]) (ofL []) := by
  refine Ct.of (Y := (fam Tryd.f89 [] [] [] (fun r : Int × Int => .agg [.int .i64 r.1, .int .i64 r.2]) (fun r => []))) Tryd.func89 rfl Tryd.call89 rfl rfl ?_ r h
  unfold kit_Lowest.f
  refine RS.go ?_
  refine RT.goto rfl ?_
  refine RS.weak [(0, .int .i64 a0), (1, .int .i64 a1), (4, .ref 4 0 0 0 2), (5, .int .i64 a0), (6, .int .i64 a1)] [(4, .box [.int .i64 0, .int .i64 0])] ⟨Le.eq (by first | rfl | simp), Le.eq (by first | rfl | simp), Le.eq (by first | rfl | simp), Le.eq (by first | rfl | simp), Le.eq (by first | rfl | simp), trivial⟩ ⟨⟨_, rfl, LeO.refl _⟩, trivial⟩ rfl (dom0 rfl) ?_
  exact kit_Lowest.loops k a0 a1 a0 a1 
/-! ### key_Speed: function 42 -/
def key_Speed.f (k : Nat) (a0 : Int) : Option (Int × Int × Int) := ((kit_Outside.f a0 1 2000).bind fun r1 => (if r1 = true then Option.some (0, 0, 1) else ((kit_Lowest.f k 1200 a0).bind fun r2 => Option.some (r2.1, r2.2, 0))))
theorem key_Speed.ok (k : Nat) (a0 : Int) (r : Int × Int × Int) (h : key_Speed.f k a0 = some r) : Ct Tryd.prog B 42 [.int .i64 a0] (ofL []) (.tup [.agg [.int .i64 r.1, .int .i64 r.2.1], .int .i64 r.2.2]) (ofL []) := by
  refine Ct.of (Y := (fam Tryd.f42 [] [] [] (fun r : Int × Int × Int => .tup [.agg [.int .i64 r.1, .int .i64 r.2.1], .int .i64 r.2.2]) (fun r => []))) Tryd.func42 rfl Tryd.call42 rfl rfl ?_ r h
  unfold key_Speed.f
  refine RS.go ?_
  refine RT.call0 rfl (fun _ h => kit_Outside.ok a0 1 2000 _ h) (LeL.eq rfl) (fun _ => rfl) (fun r1 => ?_)
  refine RS.go ?_
  refine RT.brB rfl (fun c3 => ?_) (fun c3 => ?_)
  · exact RT.done rfl rfl (Le.tup (LeL.cons (Le.refl _) (LeL.cons (Le.refl _) (LeL.nil)))) trivial rfl (dom0 rfl)
  · refine RT.call0 rfl (fun _ h => kit_Lowest.ok k 1200 a0 _ h) (LeL.eq rfl) (fun _ => rfl) (fun r2 => ?_)
    refine RS.go ?_
    exact RT.done rfl rfl (Le.tup (LeL.cons (Le.refl _) (LeL.cons (Le.refl _) (LeL.nil)))) trivial rfl (dom0 rfl)
/-! ### pilelaw1_keyed: function 24 -/
def pilelaw1_keyed.f (k : Nat) : Option (Bool) := ((key_Units.f k (⟨#[112, 97, 114, 105, 115]⟩ : ByteArray)).bind fun r1 => (if r1.2 = 0 then Option.some (decide (r1.1 = 43)) else Option.some false))
theorem pilelaw1_keyed.ok (k : Nat) (r : Bool) (h : pilelaw1_keyed.f k  = some r) : Ct Tryd.prog B 24 [] (ofL []) (.bool r) (ofL []) := by
  refine Ct.of (Y := (fam Tryd.f24 [] [] [] (fun r : Bool => .bool r) (fun r => []))) Tryd.func24 rfl Tryd.call24 rfl rfl ?_ r h
  unfold pilelaw1_keyed.f
  refine RS.go ?_
  refine RT.call0 rfl (fun _ h => key_Units.ok k (⟨#[112, 97, 114, 105, 115]⟩ : ByteArray) _ h) (LeL.eq rfl) (fun _ => rfl) (fun r1 => ?_)
  refine RS.go ?_
  refine RT.br rfl (fun c2 => ?_) (fun c2 => ?_)
  · refine RT.brT rfl ?_
    refine RT.brT rfl ?_
    exact RT.done rfl rfl (Le.refl _) trivial rfl (dom0 rfl)
  · refine RT.brF rfl ?_
    refine RT.brF rfl ?_
    exact RT.done rfl rfl (Le.refl _) trivial rfl (dom0 rfl)
/-! ### pileref1_divisor: function 116 -/
def pileref1_divisor.k0 : List DK := [⟨[10], [], [1], []⟩, ⟨[7], [], [0], []⟩, ⟨[8, 9], [], [10], []⟩, ⟨[1], [], [9], []⟩, ⟨[0], [], [8], []⟩, ⟨[1], [], [7], []⟩]
def pileref1_divisor.k1 : List Nat := [0, 0, 0, 6, 3, 31]
def pileref1_divisor.l0 : Nat → Int → Int → Option (Int)
  | 0, _, _ => Option.none
  | k + 1, x0, x1 => (if x1 = 0 then Option.some x0 else (if x1 = 0 then Option.none else pileref1_divisor.l0 k x1 (Int.tmod x0 x1)))
def pileref1_divisor.f (k : Nat) (a0 : Int) (a1 : Int) : Option (Int) := pileref1_divisor.l0 k a0 a1
theorem pileref1_divisor.loops : ∀ k, (∀ (x0 : Int) (x1 : Int), RS (fam Tryd.f116 [] [] [] (fun r : Int => .int .i64 r) (fun r => [])) (Func.head Tryd.f116 0) ⟨ofT [(0, .int .i64 x0), (1, .int .i64 x1)], ofL []⟩ (pileref1_divisor.l0 k x0 x1))
  | 0 => by intro _ _; simp only [pileref1_divisor.l0]; exact RS.none
  | k + 1 => by
    have ih := pileref1_divisor.loops k
    · intro x0 x1
      simp only [pileref1_divisor.l0]
      refine RS.go ?_
      refine RT.brN rfl (fun c2 => ?_) (fun c2 => ?_)
      · exact RT.done rfl rfl (Le.refl _) trivial rfl (dom0 rfl)
      · refine RT.goto rfl ?_
        refine RS.draw rfl ?_
        refine RD.br rfl (fun _ => RD.none) (fun c1 => ?_)
        refine RD.fin pileref1_divisor.k0 pileref1_divisor.k1 rfl rfl (by decide +kernel) ?_
        refine RS.go ?_
        refine RT.goto rfl ?_
        refine RS.weak [(0, .int .i64 x1), (1, .int .i64 (Int.tmod x0 x1))] [] ⟨Le.eq (by first | rfl | simp), Le.eq (by first | rfl | simp), trivial⟩ trivial rfl (dom0 rfl) ?_
        exact ih x1 (Int.tmod x0 x1) 
theorem pileref1_divisor.ok (k : Nat) (a0 : Int) (a1 : Int) (r : Int) (h : pileref1_divisor.f k a0 a1 = some r) : Ct Tryd.prog B 116 [.int .i64 a0, .int .i64 a1] (ofL []) (.int .i64 r) (ofL []) := by
  refine Ct.of (Y := (fam Tryd.f116 [] [] [] (fun r : Int => .int .i64 r) (fun r => []))) Tryd.func116 rfl Tryd.call116 rfl rfl ?_ r h
  unfold pileref1_divisor.f
  refine RS.go ?_
  refine RT.goto rfl ?_
  refine RS.weak [(0, .int .i64 a0), (1, .int .i64 a1)] [] ⟨Le.eq (by first | rfl | simp), Le.eq (by first | rfl | simp), trivial⟩ trivial rfl (dom0 rfl) ?_
  exact pileref1_divisor.loops k a0 a1 
/-! ### pileref1_Lowest: function 90 -/
def pileref1_Lowest.k0 : List DK := [⟨[4, 18], [4], [], [4]⟩, ⟨[14, 17], [], [18], []⟩, ⟨[15, 16], [], [17], []⟩, ⟨[5], [], [16], []⟩, ⟨[1], [], [15], []⟩, ⟨[12, 13], [], [14], []⟩, ⟨[5], [], [13], []⟩, ⟨[0], [], [12], []⟩]
def pileref1_Lowest.k1 : List Nat := [0, 0, 3, 0, 0, 24, 63, 127]
def pileref1_Lowest.f (k : Nat) (a0 : Int) (a1 : Int) : Option (Int × Int) := ((pileref1_divisor.f k (mx a0 (wrap64 (0 - a0))) a1).bind fun r1 => (if r1 = 0 then Option.none else (if r1 = 0 then Option.none else Option.some (wrap64 (Int.tdiv a0 r1), wrap64 (Int.tdiv a1 r1)))))
theorem pileref1_Lowest.ok (k : Nat) (a0 : Int) (a1 : Int) (r : Int × Int) (h : pileref1_Lowest.f k a0 a1 = some r) : Ct Tryd.prog B 90 [.int .i64 a0, .int .i64 a1] (ofL []) (.agg [.int .i64 r.1, .int .i64 r.2]) (ofL []) := by
  refine Ct.of (Y := (fam Tryd.f90 [] [] [] (fun r : Int × Int => .agg [.int .i64 r.1, .int .i64 r.2]) (fun r => []))) Tryd.func90 rfl Tryd.call90 rfl rfl ?_ r h
  unfold pileref1_Lowest.f
  refine RS.go ?_
  refine RT.call0 rfl (fun _ h => pileref1_divisor.ok k (mx a0 (wrap64 (0 - a0))) a1 _ h) (LeL.eq rfl) (fun _ => rfl) (fun r1 => ?_)
  refine RS.go ?_
  refine RT.goto rfl ?_
  refine RS.draw rfl ?_
  refine RD.br rfl (fun _ => RD.none) (fun c3 => ?_)
  refine RD.br rfl (fun _ => RD.none) (fun c2 => ?_)
  refine RD.fin pileref1_Lowest.k0 pileref1_Lowest.k1 rfl rfl (by decide +kernel) ?_
  refine RS.go ?_
  exact RT.done rfl rfl (Le.refl _) trivial rfl (dom0 rfl)
/-! ### pileref1_SpeedOf: function 43 -/
def pileref1_SpeedOf.f (k : Nat) (a0 : Int) : Option (Int × Int) := ((pileref1_Lowest.f k 1200 a0).bind fun r1 => Option.some (r1.1, r1.2))
theorem pileref1_SpeedOf.ok (k : Nat) (a0 : Int) (r : Int × Int) (h : pileref1_SpeedOf.f k a0 = some r) : Ct Tryd.prog B 43 [.int .i64 a0] (ofL []) (.agg [.int .i64 r.1, .int .i64 r.2]) (ofL []) := by
  refine Ct.of (Y := (fam Tryd.f43 [] [] [] (fun r : Int × Int => .agg [.int .i64 r.1, .int .i64 r.2]) (fun r => []))) Tryd.func43 rfl Tryd.call43 rfl rfl ?_ r h
  unfold pileref1_SpeedOf.f
  refine RS.go ?_
  refine RT.call0 rfl (fun _ h => pileref1_Lowest.ok k 1200 a0 _ h) (LeL.eq rfl) (fun _ => rfl) (fun r1 => ?_)
  refine RS.go ?_
  exact RT.done rfl rfl (Le.refl _) trivial rfl (dom0 rfl)
/-! ### pilelaw1_SignsCoded: function 5 -/
def pilelaw1_SignsCoded.k0 : List DK := [⟨[167], [], [2], []⟩, ⟨[165, 166], [], [167], []⟩, ⟨[165], [], [166], []⟩, ⟨[164], [], [165], []⟩, ⟨[159, 163], [], [164], []⟩, ⟨[159, 160, 162], [], [163], []⟩, ⟨[159, 161], [], [162], []⟩, ⟨[159, 7], [], [161], []⟩, ⟨[159, 18], [18], [160], []⟩, ⟨[158], [], [159], []⟩, ⟨[157], [], [158], []⟩, ⟨[10], [], [157], []⟩]
def pilelaw1_SignsCoded.k1 : List Nat := [0, 1, 3, 7, 7, 23, 63, 127, 255, 511, 1023, 2047]
def pilelaw1_SignsCoded.k2 : List DK := [⟨[167], [], [2], []⟩, ⟨[165, 166], [], [167], []⟩, ⟨[165], [], [166], []⟩, ⟨[164], [], [165], []⟩, ⟨[159, 163], [], [164], []⟩, ⟨[159], [], [163], []⟩, ⟨[159], [], [162], []⟩, ⟨[159], [], [161], []⟩, ⟨[159], [], [160], []⟩, ⟨[158], [], [159], []⟩, ⟨[157], [], [158], []⟩, ⟨[10], [], [157], []⟩]
def pilelaw1_SignsCoded.j13 : Nat → ByteArray → Int → Int → Option (Bool)
  | 0, _, _, _ => Option.none
  | k + 1, x5j13, x6j13, x7j13 => ((key_Plain.f k x5j13).bind fun r12 => ((pileref1_PlainOf.f k x5j13).bind fun r13 => (if r12.2 = r13.2 then (if r12.1 = r13.1 then ((key_Unit.f x6j13).bind fun r14 => ((pileref1_SpanFault.f x6j13 1 100).bind fun r15 => (if r14.2 = r15 then (if r15 = 0 then (if x6j13 = 0 then Option.none else (if r14.1 = wrap64 (Int.tdiv 1200 x6j13) then (if r15 = 0 then ((key_Speed.f k x7j13).bind fun r27 => ((pileref1_SpanFault.f x7j13 1 2000).bind fun r28 => (if r28 = 0 then (if r27.2.2 = 0 then ((pileref1_SpeedOf.f k x7j13).bind fun r32 => (if (decide (r27.1 = r32.1) && (decide (r27.2.1 = r32.2) && true)) = true then ((pilelaw1_keyed.f k ).bind fun r33 => Option.some r33) else Option.some false)) else Option.some false) else (if r27.2.2 = r28 then (if (decide (r27.1 = 0) && (decide (r27.2.1 = 0) && true)) = true then ((pilelaw1_keyed.f k ).bind fun r29 => Option.some r29) else Option.some false) else Option.some false)))) else (if r14.1 = 0 then ((key_Speed.f k x7j13).bind fun r16 => ((pileref1_SpanFault.f x7j13 1 2000).bind fun r17 => (if r17 = 0 then (if r16.2.2 = 0 then ((pileref1_SpeedOf.f k x7j13).bind fun r21 => (if (decide (r16.1 = r21.1) && (decide (r16.2.1 = r21.2) && true)) = true then ((pilelaw1_keyed.f k ).bind fun r22 => Option.some r22) else Option.some false)) else Option.some false) else (if r16.2.2 = r17 then (if (decide (r16.1 = 0) && (decide (r16.2.1 = 0) && true)) = true then ((pilelaw1_keyed.f k ).bind fun r18 => Option.some r18) else Option.some false) else Option.some false)))) else Option.some false)) else Option.some false)) else (if r15 = 0 then ((key_Speed.f k x7j13).bind fun r51 => ((pileref1_SpanFault.f x7j13 1 2000).bind fun r52 => (if r52 = 0 then (if r51.2.2 = 0 then ((pileref1_SpeedOf.f k x7j13).bind fun r56 => (if (decide (r51.1 = r56.1) && (decide (r51.2.1 = r56.2) && true)) = true then ((pilelaw1_keyed.f k ).bind fun r57 => Option.some r57) else Option.some false)) else Option.some false) else (if r51.2.2 = r52 then (if (decide (r51.1 = 0) && (decide (r51.2.1 = 0) && true)) = true then ((pilelaw1_keyed.f k ).bind fun r53 => Option.some r53) else Option.some false) else Option.some false)))) else (if r14.1 = 0 then ((key_Speed.f k x7j13).bind fun r40 => ((pileref1_SpanFault.f x7j13 1 2000).bind fun r41 => (if r41 = 0 then (if r40.2.2 = 0 then ((pileref1_SpeedOf.f k x7j13).bind fun r45 => (if (decide (r40.1 = r45.1) && (decide (r40.2.1 = r45.2) && true)) = true then ((pilelaw1_keyed.f k ).bind fun r46 => Option.some r46) else Option.some false)) else Option.some false) else (if r40.2.2 = r41 then (if (decide (r40.1 = 0) && (decide (r40.2.1 = 0) && true)) = true then ((pilelaw1_keyed.f k ).bind fun r42 => Option.some r42) else Option.some false) else Option.some false)))) else Option.some false))) else Option.some false))) else Option.some false) else Option.some false)))
def pilelaw1_SignsCoded.f (k : Nat) (l0 : List Int) : Option (Bool) := ((pilemake_Stream_Saying.f k l0 0).bind fun r1 => ((pilemake_Stream_CodeString.f k r1.2.1 r1.2.2).bind fun r2 => ((pilemake_Stream_Pick.f k r2.2.1 r2.2.2 [1, 20, 25, 100, 0, 101]).bind fun r3 => ((pilemake_Stream_Pick.f k r3.2.1 r3.2.2 [1, 60, 2000, 0, 2001]).bind fun r4 => ((pileref1_SaidFault.f k r1.1).bind fun r5 => ((key_Codes.f k ).bind fun r6 => ((pileref1_CodesOf.f k ).bind fun r7 => ((slices_Equal_api_Signed_api_Signed.f k r6 r7).bind fun r8 => (if r8 = true then ((key_CheckSaid.f k r1.1).bind fun r9 => (if r9 = r5 then ((key_Code.f k r1.1).bind fun r10 => ((key_Units.f k r1.1).bind fun r11 => (if r5 = 0 then (if r10.2 = 0 then ((pileref1_CodedOf.f k r1.1).bind fun r70 => (if r10.1 = r70 then (if r11.2 = 0 then ((pileref1_UnitsOf.f k r1.1).bind fun r71 => (if r11.1 = r71 then pilelaw1_SignsCoded.j13 k r2.1 r3.1 r4.1 else Option.some false)) else Option.some false) else Option.some false)) else Option.some false) else (if r10.2 = r5 then (if r11.2 = r5 then (if r10.1 = (⟨#[]⟩ : ByteArray) then (if r11.1 = 0 then pilelaw1_SignsCoded.j13 k r2.1 r3.1 r4.1 else Option.some false) else Option.some false) else Option.some false) else Option.some false)))) else Option.some false)) else Option.some false)))))))))
theorem pilelaw1_SignsCoded.loops : ∀ k, (∀ (x5j13 : ByteArray) (x6j13 : Int) (x7j13 : Int), RS (fam Tryd.f5 [13] [] [] (fun r : Bool => .bool r) (fun r => [])) (Func.reg Tryd.f5 13) ⟨ofT [(5, .str x5j13), (6, .int .i64 x6j13), (7, .int .i64 x7j13)], ofL []⟩ (pilelaw1_SignsCoded.j13 k x5j13 x6j13 x7j13))
  | 0 => by intro _ _ _; simp only [pilelaw1_SignsCoded.j13]; exact RS.none
  | k + 1 => by
    have ih := pilelaw1_SignsCoded.loops k
    · intro x5j13 x6j13 x7j13
      simp only [pilelaw1_SignsCoded.j13]
      refine RS.region ?_
      refine RS.go ?_
      refine RT.call0 rfl (fun _ h => key_Plain.ok k x5j13 _ h) (LeL.eq rfl) (fun _ => rfl) (fun r12 => ?_)
      refine RS.go ?_
      refine RT.call0 rfl (fun _ h => pileref1_PlainOf.ok k x5j13 _ h) (LeL.eq rfl) (fun _ => rfl) (fun r13 => ?_)
      refine RS.go ?_
      refine RT.brN rfl (fun c65 => ?_) (fun c65 => ?_)
      · refine RT.brF rfl ?_
        refine RT.brF rfl ?_
        refine RT.brF rfl ?_
        refine RT.brN rfl (fun c64 => ?_) (fun c64 => ?_)
        · refine RT.call0 rfl (fun _ h => key_Unit.ok x6j13 _ h) (LeL.eq rfl) (fun _ => rfl) (fun r14 => ?_)
          refine RS.go ?_
          refine RT.call0 rfl (fun _ h => pileref1_SpanFault.ok x6j13 1 100 _ h) (LeL.eq rfl) (fun _ => rfl) (fun r15 => ?_)
          refine RS.go ?_
          refine RT.brN rfl (fun c63 => ?_) (fun c63 => ?_)
          · refine RT.brF rfl ?_
            refine RT.brF rfl ?_
            refine RT.br rfl (fun c62 => ?_) (fun c62 => ?_)
            · refine RT.brT rfl ?_
              refine RT.brT rfl ?_
              refine RT.br rfl (fun _ => RT.none) (fun c39 => ?_)
              refine RT.brT rfl ?_
              refine RT.brF rfl ?_
              refine RT.brT rfl ?_
              refine RT.brF rfl ?_
              refine RT.brN rfl (fun c38 => ?_) (fun c38 => ?_)
              · refine RT.brF rfl ?_
                refine RT.brF rfl ?_
                refine RT.brN rfl (fun c37 => ?_) (fun c37 => ?_)
                · refine RT.brF rfl ?_
                  refine RT.brF rfl ?_
                  refine RT.brF rfl ?_
                  refine RT.brF rfl ?_
                  refine RT.brF rfl ?_
                  refine RT.call0 rfl (fun _ h => key_Speed.ok k x7j13 _ h) (LeL.eq rfl) (fun _ => rfl) (fun r27 => ?_)
                  refine RS.go ?_
                  refine RT.call0 rfl (fun _ h => pileref1_SpanFault.ok x7j13 1 2000 _ h) (LeL.eq rfl) (fun _ => rfl) (fun r28 => ?_)
                  refine RS.go ?_
                  refine RT.brN rfl (fun c36 => ?_) (fun c36 => ?_)
                  · refine RT.goto rfl ?_
                    refine RS.draw rfl ?_
                    refine RD.br rfl (fun c35 => ?_) (fun c35 => ?_)
                    · refine RD.brT rfl ?_
                      refine RD.brT rfl ?_
                      refine RD.call (CR := []) (CW := (fun r => [])) rfl (fun _ h => pileref1_SpeedOf.ok k x7j13 _ h) (fun i => i) trivial (fun _ => rfl) ⟨_, _, _, _, rfl, rfl, rfl⟩ (LeL.eq rfl) trivial (fun _ => rfl) (fun r32 => ?_)
                      refine RD.brT rfl ?_
                      refine RD.brT rfl ?_
                      refine RD.brB rfl (fun c34 => ?_) (fun c34 => ?_)
                      · refine RD.call (CR := []) (CW := (fun r => [])) rfl (fun _ h => pilelaw1_keyed.ok k  _ h) (fun i => i) trivial (fun _ => rfl) ⟨_, _, _, _, rfl, rfl, rfl⟩ (LeL.eq rfl) trivial (fun _ => rfl) (fun r33 => ?_)
                        refine RD.brT rfl ?_
                        refine RD.fin pilelaw1_SignsCoded.k0 pilelaw1_SignsCoded.k1 rfl rfl (by decide +kernel) ?_
                        refine RS.go ?_
                        exact RT.done rfl rfl (Le.refl _) trivial rfl (dom0 rfl)
                      · refine RD.brF rfl ?_
                        refine RD.fin pilelaw1_SignsCoded.k0 pilelaw1_SignsCoded.k1 rfl rfl (by decide +kernel) ?_
                        refine RS.go ?_
                        exact RT.done rfl rfl (Le.refl _) trivial rfl (dom0 rfl)
                    · refine RD.brF rfl ?_
                      refine RD.brF rfl ?_
                      refine RD.brF rfl ?_
                      refine RD.brF rfl ?_
                      refine RD.brF rfl ?_
                      refine RD.brF rfl ?_
                      refine RD.fin pilelaw1_SignsCoded.k2 pilelaw1_SignsCoded.k1 rfl rfl (by decide +kernel) ?_
                      refine RS.go ?_
                      exact RT.done rfl rfl (Le.refl _) trivial rfl (dom0 rfl)
                  · refine RT.br rfl (fun c31 => ?_) (fun c31 => ?_)
                    · refine RT.brT rfl ?_
                      refine RT.brT rfl ?_
                      refine RT.brT rfl ?_
                      refine RT.brB rfl (fun c30 => ?_) (fun c30 => ?_)
                      · refine RT.call0 rfl (fun _ h => pilelaw1_keyed.ok k  _ h) (LeL.eq rfl) (fun _ => rfl) (fun r29 => ?_)
                        refine RS.go ?_
                        refine RT.brT rfl ?_
                        exact RT.done rfl rfl (Le.refl _) trivial rfl (dom0 rfl)
                      · refine RT.brF rfl ?_
                        exact RT.done rfl rfl (Le.refl _) trivial rfl (dom0 rfl)
                    · refine RT.brF rfl ?_
                      refine RT.brF rfl ?_
                      refine RT.brF rfl ?_
                      refine RT.brF rfl ?_
                      refine RT.brF rfl ?_
                      exact RT.done rfl rfl (Le.refl _) trivial rfl (dom0 rfl)
                · refine RT.brT rfl ?_
                  refine RT.brF rfl ?_
                  refine RT.brT rfl ?_
                  refine RT.brF rfl ?_
                  refine RT.brN rfl (fun c26 => ?_) (fun c26 => ?_)
                  · refine RT.call0 rfl (fun _ h => key_Speed.ok k x7j13 _ h) (LeL.eq rfl) (fun _ => rfl) (fun r16 => ?_)
                    refine RS.go ?_
                    refine RT.call0 rfl (fun _ h => pileref1_SpanFault.ok x7j13 1 2000 _ h) (LeL.eq rfl) (fun _ => rfl) (fun r17 => ?_)
                    refine RS.go ?_
                    refine RT.brN rfl (fun c25 => ?_) (fun c25 => ?_)
                    · refine RT.goto rfl ?_
                      refine RS.draw rfl ?_
                      refine RD.br rfl (fun c24 => ?_) (fun c24 => ?_)
                      · refine RD.brT rfl ?_
                        refine RD.brT rfl ?_
                        refine RD.call (CR := []) (CW := (fun r => [])) rfl (fun _ h => pileref1_SpeedOf.ok k x7j13 _ h) (fun i => i) trivial (fun _ => rfl) ⟨_, _, _, _, rfl, rfl, rfl⟩ (LeL.eq rfl) trivial (fun _ => rfl) (fun r21 => ?_)
                        refine RD.brT rfl ?_
                        refine RD.brT rfl ?_
                        refine RD.brB rfl (fun c23 => ?_) (fun c23 => ?_)
                        · refine RD.call (CR := []) (CW := (fun r => [])) rfl (fun _ h => pilelaw1_keyed.ok k  _ h) (fun i => i) trivial (fun _ => rfl) ⟨_, _, _, _, rfl, rfl, rfl⟩ (LeL.eq rfl) trivial (fun _ => rfl) (fun r22 => ?_)
                          refine RD.brT rfl ?_
                          refine RD.fin pilelaw1_SignsCoded.k0 pilelaw1_SignsCoded.k1 rfl rfl (by decide +kernel) ?_
                          refine RS.go ?_
                          exact RT.done rfl rfl (Le.refl _) trivial rfl (dom0 rfl)
                        · refine RD.brF rfl ?_
                          refine RD.fin pilelaw1_SignsCoded.k0 pilelaw1_SignsCoded.k1 rfl rfl (by decide +kernel) ?_
                          refine RS.go ?_
                          exact RT.done rfl rfl (Le.refl _) trivial rfl (dom0 rfl)
                      · refine RD.brF rfl ?_
                        refine RD.brF rfl ?_
                        refine RD.brF rfl ?_
                        refine RD.brF rfl ?_
                        refine RD.brF rfl ?_
                        refine RD.brF rfl ?_
                        refine RD.fin pilelaw1_SignsCoded.k2 pilelaw1_SignsCoded.k1 rfl rfl (by decide +kernel) ?_
                        refine RS.go ?_
                        exact RT.done rfl rfl (Le.refl _) trivial rfl (dom0 rfl)
                    · refine RT.br rfl (fun c20 => ?_) (fun c20 => ?_)
                      · refine RT.brT rfl ?_
                        refine RT.brT rfl ?_
                        refine RT.brT rfl ?_
                        refine RT.brB rfl (fun c19 => ?_) (fun c19 => ?_)
                        · refine RT.call0 rfl (fun _ h => pilelaw1_keyed.ok k  _ h) (LeL.eq rfl) (fun _ => rfl) (fun r18 => ?_)
                          refine RS.go ?_
                          refine RT.brT rfl ?_
                          exact RT.done rfl rfl (Le.refl _) trivial rfl (dom0 rfl)
                        · refine RT.brF rfl ?_
                          exact RT.done rfl rfl (Le.refl _) trivial rfl (dom0 rfl)
                      · refine RT.brF rfl ?_
                        refine RT.brF rfl ?_
                        refine RT.brF rfl ?_
                        refine RT.brF rfl ?_
                        refine RT.brF rfl ?_
                        exact RT.done rfl rfl (Le.refl _) trivial rfl (dom0 rfl)
                  · exact RT.done rfl rfl (Le.refl _) trivial rfl (dom0 rfl)
              · refine RT.brT rfl ?_
                refine RT.brT rfl ?_
                refine RT.brT rfl ?_
                refine RT.brT rfl ?_
                refine RT.brT rfl ?_
                exact RT.done rfl rfl (Le.refl _) trivial rfl (dom0 rfl)
            · refine RT.brF rfl ?_
              refine RT.brF rfl ?_
              refine RT.brF rfl ?_
              refine RT.brF rfl ?_
              refine RT.brF rfl ?_
              refine RT.brF rfl ?_
              refine RT.brF rfl ?_
              refine RT.brF rfl ?_
              refine RT.brF rfl ?_
              refine RT.brN rfl (fun c61 => ?_) (fun c61 => ?_)
              · refine RT.brF rfl ?_
                refine RT.brF rfl ?_
                refine RT.brF rfl ?_
                refine RT.brF rfl ?_
                refine RT.brF rfl ?_
                refine RT.call0 rfl (fun _ h => key_Speed.ok k x7j13 _ h) (LeL.eq rfl) (fun _ => rfl) (fun r51 => ?_)
                refine RS.go ?_
                refine RT.call0 rfl (fun _ h => pileref1_SpanFault.ok x7j13 1 2000 _ h) (LeL.eq rfl) (fun _ => rfl) (fun r52 => ?_)
                refine RS.go ?_
                refine RT.brN rfl (fun c60 => ?_) (fun c60 => ?_)
                · refine RT.goto rfl ?_
                  refine RS.draw rfl ?_
                  refine RD.br rfl (fun c59 => ?_) (fun c59 => ?_)
                  · refine RD.brT rfl ?_
                    refine RD.brT rfl ?_
                    refine RD.call (CR := []) (CW := (fun r => [])) rfl (fun _ h => pileref1_SpeedOf.ok k x7j13 _ h) (fun i => i) trivial (fun _ => rfl) ⟨_, _, _, _, rfl, rfl, rfl⟩ (LeL.eq rfl) trivial (fun _ => rfl) (fun r56 => ?_)
                    refine RD.brT rfl ?_
                    refine RD.brT rfl ?_
                    refine RD.brB rfl (fun c58 => ?_) (fun c58 => ?_)
                    · refine RD.call (CR := []) (CW := (fun r => [])) rfl (fun _ h => pilelaw1_keyed.ok k  _ h) (fun i => i) trivial (fun _ => rfl) ⟨_, _, _, _, rfl, rfl, rfl⟩ (LeL.eq rfl) trivial (fun _ => rfl) (fun r57 => ?_)
                      refine RD.brT rfl ?_
                      refine RD.fin pilelaw1_SignsCoded.k0 pilelaw1_SignsCoded.k1 rfl rfl (by decide +kernel) ?_
                      refine RS.go ?_
                      exact RT.done rfl rfl (Le.refl _) trivial rfl (dom0 rfl)
                    · refine RD.brF rfl ?_
                      refine RD.fin pilelaw1_SignsCoded.k0 pilelaw1_SignsCoded.k1 rfl rfl (by decide +kernel) ?_
                      refine RS.go ?_
                      exact RT.done rfl rfl (Le.refl _) trivial rfl (dom0 rfl)
                  · refine RD.brF rfl ?_
                    refine RD.brF rfl ?_
                    refine RD.brF rfl ?_
                    refine RD.brF rfl ?_
                    refine RD.brF rfl ?_
                    refine RD.brF rfl ?_
                    refine RD.fin pilelaw1_SignsCoded.k2 pilelaw1_SignsCoded.k1 rfl rfl (by decide +kernel) ?_
                    refine RS.go ?_
                    exact RT.done rfl rfl (Le.refl _) trivial rfl (dom0 rfl)
                · refine RT.br rfl (fun c55 => ?_) (fun c55 => ?_)
                  · refine RT.brT rfl ?_
                    refine RT.brT rfl ?_
                    refine RT.brT rfl ?_
                    refine RT.brB rfl (fun c54 => ?_) (fun c54 => ?_)
                    · refine RT.call0 rfl (fun _ h => pilelaw1_keyed.ok k  _ h) (LeL.eq rfl) (fun _ => rfl) (fun r53 => ?_)
                      refine RS.go ?_
                      refine RT.brT rfl ?_
                      exact RT.done rfl rfl (Le.refl _) trivial rfl (dom0 rfl)
                    · refine RT.brF rfl ?_
                      exact RT.done rfl rfl (Le.refl _) trivial rfl (dom0 rfl)
                  · refine RT.brF rfl ?_
                    refine RT.brF rfl ?_
                    refine RT.brF rfl ?_
                    refine RT.brF rfl ?_
                    refine RT.brF rfl ?_
                    exact RT.done rfl rfl (Le.refl _) trivial rfl (dom0 rfl)
              · refine RT.brT rfl ?_
                refine RT.brF rfl ?_
                refine RT.brT rfl ?_
                refine RT.brF rfl ?_
                refine RT.brN rfl (fun c50 => ?_) (fun c50 => ?_)
                · refine RT.call0 rfl (fun _ h => key_Speed.ok k x7j13 _ h) (LeL.eq rfl) (fun _ => rfl) (fun r40 => ?_)
                  refine RS.go ?_
                  refine RT.call0 rfl (fun _ h => pileref1_SpanFault.ok x7j13 1 2000 _ h) (LeL.eq rfl) (fun _ => rfl) (fun r41 => ?_)
                  refine RS.go ?_
                  refine RT.brN rfl (fun c49 => ?_) (fun c49 => ?_)
                  · refine RT.goto rfl ?_
                    refine RS.draw rfl ?_
                    refine RD.br rfl (fun c48 => ?_) (fun c48 => ?_)
                    · refine RD.brT rfl ?_
                      refine RD.brT rfl ?_
                      refine RD.call (CR := []) (CW := (fun r => [])) rfl (fun _ h => pileref1_SpeedOf.ok k x7j13 _ h) (fun i => i) trivial (fun _ => rfl) ⟨_, _, _, _, rfl, rfl, rfl⟩ (LeL.eq rfl) trivial (fun _ => rfl) (fun r45 => ?_)
                      refine RD.brT rfl ?_
                      refine RD.brT rfl ?_
                      refine RD.brB rfl (fun c47 => ?_) (fun c47 => ?_)
                      · refine RD.call (CR := []) (CW := (fun r => [])) rfl (fun _ h => pilelaw1_keyed.ok k  _ h) (fun i => i) trivial (fun _ => rfl) ⟨_, _, _, _, rfl, rfl, rfl⟩ (LeL.eq rfl) trivial (fun _ => rfl) (fun r46 => ?_)
                        refine RD.brT rfl ?_
                        refine RD.fin pilelaw1_SignsCoded.k0 pilelaw1_SignsCoded.k1 rfl rfl (by decide +kernel) ?_
                        refine RS.go ?_
                        exact RT.done rfl rfl (Le.refl _) trivial rfl (dom0 rfl)
                      · refine RD.brF rfl ?_
                        refine RD.fin pilelaw1_SignsCoded.k0 pilelaw1_SignsCoded.k1 rfl rfl (by decide +kernel) ?_
                        refine RS.go ?_
                        exact RT.done rfl rfl (Le.refl _) trivial rfl (dom0 rfl)
                    · refine RD.brF rfl ?_
                      refine RD.brF rfl ?_
                      refine RD.brF rfl ?_
                      refine RD.brF rfl ?_
                      refine RD.brF rfl ?_
                      refine RD.brF rfl ?_
                      refine RD.fin pilelaw1_SignsCoded.k2 pilelaw1_SignsCoded.k1 rfl rfl (by decide +kernel) ?_
                      refine RS.go ?_
                      exact RT.done rfl rfl (Le.refl _) trivial rfl (dom0 rfl)
                  · refine RT.br rfl (fun c44 => ?_) (fun c44 => ?_)
                    · refine RT.brT rfl ?_
                      refine RT.brT rfl ?_
                      refine RT.brT rfl ?_
                      refine RT.brB rfl (fun c43 => ?_) (fun c43 => ?_)
                      · refine RT.call0 rfl (fun _ h => pilelaw1_keyed.ok k  _ h) (LeL.eq rfl) (fun _ => rfl) (fun r42 => ?_)
                        refine RS.go ?_
                        refine RT.brT rfl ?_
                        exact RT.done rfl rfl (Le.refl _) trivial rfl (dom0 rfl)
                      · refine RT.brF rfl ?_
                        exact RT.done rfl rfl (Le.refl _) trivial rfl (dom0 rfl)
                    · refine RT.brF rfl ?_
                      refine RT.brF rfl ?_
                      refine RT.brF rfl ?_
                      refine RT.brF rfl ?_
                      refine RT.brF rfl ?_
                      exact RT.done rfl rfl (Le.refl _) trivial rfl (dom0 rfl)
                · exact RT.done rfl rfl (Le.refl _) trivial rfl (dom0 rfl)
          · refine RT.brT rfl ?_
            refine RT.brT rfl ?_
            refine RT.brT rfl ?_
            refine RT.brT rfl ?_
            refine RT.brT rfl ?_
            refine RT.brT rfl ?_
            refine RT.brT rfl ?_
            refine RT.brT rfl ?_
            refine RT.brT rfl ?_
            refine RT.brT rfl ?_
            exact RT.done rfl rfl (Le.refl _) trivial rfl (dom0 rfl)
        · exact RT.done rfl rfl (Le.refl _) trivial rfl (dom0 rfl)
      · refine RT.brT rfl ?_
        refine RT.brT rfl ?_
        refine RT.brT rfl ?_
        refine RT.brT rfl ?_
        exact RT.done rfl rfl (Le.refl _) trivial rfl (dom0 rfl)
theorem pilelaw1_SignsCoded.ok (k : Nat) (l0 : List Int) (r : Bool) (h : pilelaw1_SignsCoded.f k l0 = some r) : Ct Tryd.prog B 5 [sq eI l0] (ofL []) (.bool r) (ofL []) := by
  refine Ct.of (Y := (fam Tryd.f5 [13] [] [] (fun r : Bool => .bool r) (fun r => []))) Tryd.func5 rfl Tryd.call5 rfl rfl ?_ r h
  unfold pilelaw1_SignsCoded.f
  refine RS.go ?_
  refine RT.call rfl (fun _ h => pilemake_Stream_Saying.ok k l0 0 _ h) (fun i => bif Nat.beq i 100000 then 22 else i) (LeL.eq rfl) ⟨⟨_, rfl, LeO.refl _⟩, trivial⟩ (fun _ => rfl) (fun r1 => ?_)
  refine RS.go ?_
  refine RT.call rfl (fun _ h => pilemake_Stream_CodeString.ok k r1.2.1 r1.2.2 _ h) (fun i => bif Nat.beq i 100000 then 22 else i) (LeL.eq rfl) ⟨⟨_, rfl, LeO.refl _⟩, trivial⟩ (fun _ => rfl) (fun r2 => ?_)
  refine RS.go ?_
  refine RT.goto rfl ?_
  refine RS.slot 28 (sq eI [1, 20, 25, 100, 0, 101]) (Le.lit (E := eI) (l := [1, 20, 25, 100, 0, 101]) (cells_of rfl)) ?_
  refine RS.go ?_
  refine RT.call rfl (fun _ h => pilemake_Stream_Pick.ok k r2.2.1 r2.2.2 [1, 20, 25, 100, 0, 101] _ h) (fun i => bif Nat.beq i 100000 then 22 else i) (LeL.eq rfl) ⟨⟨_, rfl, LeO.refl _⟩, trivial⟩ (fun _ => rfl) (fun r3 => ?_)
  refine RS.go ?_
  refine RT.goto rfl ?_
  refine RS.slot 31 (sq eI [1, 60, 2000, 0, 2001]) (Le.lit (E := eI) (l := [1, 60, 2000, 0, 2001]) (cells_of rfl)) ?_
  refine RS.go ?_
  refine RT.call rfl (fun _ h => pilemake_Stream_Pick.ok k r3.2.1 r3.2.2 [1, 60, 2000, 0, 2001] _ h) (fun i => bif Nat.beq i 100000 then 22 else i) (LeL.eq rfl) ⟨⟨_, rfl, LeO.refl _⟩, trivial⟩ (fun _ => rfl) (fun r4 => ?_)
  refine RS.go ?_
  refine RT.call0 rfl (fun _ h => pileref1_SaidFault.ok k r1.1 _ h) (LeL.eq rfl) (fun _ => rfl) (fun r5 => ?_)
  refine RS.go ?_
  refine RT.call0 rfl (fun _ h => key_Codes.ok k  _ h) (LeL.eq rfl) (fun _ => rfl) (fun r6 => ?_)
  refine RS.go ?_
  refine RT.call0 rfl (fun _ h => pileref1_CodesOf.ok k  _ h) (LeL.eq rfl) (fun _ => rfl) (fun r7 => ?_)
  refine RS.go ?_
  refine RT.call0 rfl (fun _ h => slices_Equal_api_Signed_api_Signed.ok k r6 r7 _ h) (LeL.eq rfl) (fun _ => rfl) (fun r8 => ?_)
  refine RS.go ?_
  refine RT.brBN rfl (fun c78 => ?_) (fun c78 => ?_)
  · refine RT.brF rfl ?_
    refine RT.call0 rfl (fun _ h => key_CheckSaid.ok k r1.1 _ h) (LeL.eq rfl) (fun _ => rfl) (fun r9 => ?_)
    refine RS.go ?_
    refine RT.brF rfl ?_
    refine RT.brF rfl ?_
    refine RT.brF rfl ?_
    refine RT.brN rfl (fun c77 => ?_) (fun c77 => ?_)
    · refine RT.call0 rfl (fun _ h => key_Code.ok k r1.1 _ h) (LeL.eq rfl) (fun _ => rfl) (fun r10 => ?_)
      refine RS.go ?_
      refine RT.call0 rfl (fun _ h => key_Units.ok k r1.1 _ h) (LeL.eq rfl) (fun _ => rfl) (fun r11 => ?_)
      refine RS.go ?_
      refine RT.brN rfl (fun c76 => ?_) (fun c76 => ?_)
      · refine RT.brN rfl (fun c75 => ?_) (fun c75 => ?_)
        · refine RT.brF rfl ?_
          refine RT.brF rfl ?_
          refine RT.call0 rfl (fun _ h => pileref1_CodedOf.ok k r1.1 _ h) (LeL.eq rfl) (fun _ => rfl) (fun r70 => ?_)
          refine RS.go ?_
          refine RT.brF rfl ?_
          refine RT.brF rfl ?_
          refine RT.brN rfl (fun c74 => ?_) (fun c74 => ?_)
          · refine RT.brF rfl ?_
            refine RT.brF rfl ?_
            refine RT.brN rfl (fun c73 => ?_) (fun c73 => ?_)
            · refine RT.brF rfl ?_
              refine RT.brF rfl ?_
              refine RT.call0 rfl (fun _ h => pileref1_UnitsOf.ok k r1.1 _ h) (LeL.eq rfl) (fun _ => rfl) (fun r71 => ?_)
              refine RS.go ?_
              refine RT.brF rfl ?_
              refine RT.brF rfl ?_
              refine RT.brN rfl (fun c72 => ?_) (fun c72 => ?_)
              · refine RT.goto rfl ?_
                refine RS.weak [(5, .str r2.1), (6, .int .i64 r3.1), (7, .int .i64 r4.1)] [] ⟨Le.eq (by first | rfl | simp), Le.eq (by first | rfl | simp), Le.eq (by first | rfl | simp), trivial⟩ trivial rfl (dom0 rfl) ?_
                exact pilelaw1_SignsCoded.loops k r2.1 r3.1 r4.1 
              · exact RT.done rfl rfl (Le.refl _) trivial rfl (dom0 rfl)
            · refine RT.brT rfl ?_
              refine RT.brT rfl ?_
              refine RT.brT rfl ?_
              refine RT.brT rfl ?_
              refine RT.brT rfl ?_
              exact RT.done rfl rfl (Le.refl _) trivial rfl (dom0 rfl)
          · refine RT.brT rfl ?_
            refine RT.brT rfl ?_
            refine RT.brT rfl ?_
            refine RT.brT rfl ?_
            refine RT.brT rfl ?_
            refine RT.brT rfl ?_
            refine RT.brT rfl ?_
            refine RT.brT rfl ?_
            exact RT.done rfl rfl (Le.refl _) trivial rfl (dom0 rfl)
        · refine RT.brT rfl ?_
          refine RT.brT rfl ?_
          refine RT.brT rfl ?_
          refine RT.brT rfl ?_
          refine RT.brT rfl ?_
          refine RT.brT rfl ?_
          refine RT.brT rfl ?_
          refine RT.brT rfl ?_
          refine RT.brT rfl ?_
          refine RT.brT rfl ?_
          refine RT.brT rfl ?_
          refine RT.brT rfl ?_
          refine RT.brT rfl ?_
          exact RT.done rfl rfl (Le.refl _) trivial rfl (dom0 rfl)
      · refine RT.brN rfl (fun c69 => ?_) (fun c69 => ?_)
        · refine RT.brF rfl ?_
          refine RT.brF rfl ?_
          refine RT.brF rfl ?_
          refine RT.brN rfl (fun c68 => ?_) (fun c68 => ?_)
          · refine RT.brF rfl ?_
            refine RT.brF rfl ?_
            refine RT.brN rfl (fun c67 => ?_) (fun c67 => ?_)
            · refine RT.brF rfl ?_
              refine RT.brF rfl ?_
              refine RT.brN rfl (fun c66 => ?_) (fun c66 => ?_)
              · refine RT.goto rfl ?_
                refine RS.weak [(5, .str r2.1), (6, .int .i64 r3.1), (7, .int .i64 r4.1)] [] ⟨Le.eq (by first | rfl | simp), Le.eq (by first | rfl | simp), Le.eq (by first | rfl | simp), trivial⟩ trivial rfl (dom0 rfl) ?_
                exact pilelaw1_SignsCoded.loops k r2.1 r3.1 r4.1 
              · exact RT.done rfl rfl (Le.refl _) trivial rfl (dom0 rfl)
            · refine RT.brT rfl ?_
              refine RT.brT rfl ?_
              refine RT.brT rfl ?_
              exact RT.done rfl rfl (Le.refl _) trivial rfl (dom0 rfl)
          · refine RT.brT rfl ?_
            refine RT.brT rfl ?_
            refine RT.brT rfl ?_
            refine RT.brT rfl ?_
            refine RT.brT rfl ?_
            refine RT.brT rfl ?_
            exact RT.done rfl rfl (Le.refl _) trivial rfl (dom0 rfl)
        · refine RT.brT rfl ?_
          refine RT.brT rfl ?_
          refine RT.brT rfl ?_
          refine RT.brT rfl ?_
          refine RT.brT rfl ?_
          refine RT.brT rfl ?_
          refine RT.brT rfl ?_
          refine RT.brT rfl ?_
          refine RT.brT rfl ?_
          refine RT.brT rfl ?_
          exact RT.done rfl rfl (Le.refl _) trivial rfl (dom0 rfl)
    · exact RT.done rfl rfl (Le.refl _) trivial rfl (dom0 rfl)
  · refine RT.brT rfl ?_
    refine RT.brT rfl ?_
    refine RT.brT rfl ?_
    refine RT.brT rfl ?_
    refine RT.brT rfl ?_
    exact RT.done rfl rfl (Le.refl _) trivial rfl (dom0 rfl)
end Go.EV
