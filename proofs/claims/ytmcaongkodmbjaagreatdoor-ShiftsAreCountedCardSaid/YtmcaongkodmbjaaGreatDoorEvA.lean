/- A symbolic engine for the model's code, proved: values, objects, operations. -/
import Derived.Below
import Derived.Orders
import Derived.Laws.Cells
import Derived.Laws.CopyRow
import Derived.Lib.AppendStr
import Derived.RowKit
import GoSem.Dispatch
import Derived.Laws.Strings
import Derived.Laws.Small
import Derived.Laws.Slices
import Derived.Laws.MakeOwn
import Derived.Laws.OwnMore
import Derived.Laws.StructEq
import Derived.ChangeKeysEq
import Derived.MapKept
import Derived.Laws.BytesArg
set_option linter.unusedVariables false
set_option linter.unusedSimpArgs false
/-
The abstract side of a call: values without memory, objects that a frame owns, and how they stand to the machine's values and world.
-/

namespace Go.EV
open Go

inductive AV where
  | bad
  | int (k : IntKind) (n : Int)
  | bool (b : Bool)
  | str (s : ByteArray)
  | v (x : Value)
  | agg (xs : List AV)
  | tup (xs : List AV)
  | sl (n w : Nat) (f : Nat → Nat → AV)
  | fp (w : Nat) (f : Nat → AV)
  | ref (s w i off ep : Nat)
  | osl (s w off len cap : Nat)
  | omap (s : Nat)
  | fn (g : Nat) (caps : List AV)
  deriving Inhabited

/-- A map's keys. -/
inductive KL where
  | ints (k : IntKind) (l : List Int)
  | strs (l : List ByteArray)
def KL.vals : KL → List Value
  | .ints k l => l.map fun n => .int k n
  | .strs l => l.map fun s => .string s
def KL.len : KL → Nat
  | .ints _ l => l.length
  | .strs l => l.length

inductive Ob where
  | box (xs : List AV)
  | buf (n w : Nat) (f : Nat → Nat → AV)
  | mp (ks : KL) (f : Nat → AV)
  | it (s : ByteArray) (pos : Nat)
  | bx (T h m n : Nat)
  | bb (T m : Nat) (t : ByteArray)
  | mit (m n : Nat) (rem : List Nat) (cur : Nat)

def szOf : Option Ob → Nat
  | some (.box xs) => xs.length
  | some (.buf n _ _) => n
  | some (.bx _ _ _ _) => 2
  | some (.bb _ m _) => m
  | _ => 0

abbrev Obs := Nat → Option Ob
def szf (L : Obs) : Nat → Nat := fun s => szOf (L s)

structure G where
  S : Nat → Prop
  β : Nat → Option (Nat × Nat)

/-- Values in memory that nobody writes any more. -/
inductive F (S : Nat → Prop) (w : World) : AV → Value → Prop
  | bad (x : Value) : F S w .bad x
  | int (k : IntKind) (n : Int) : F S w (.int k n) (.int k n)
  | bool (b : Bool) : F S w (.bool b) (.bool b)
  | str (s : ByteArray) : F S w (.str s) (.string s)
  | v (x : Value) : F S w (.v x) x
  | fn0 (g : Nat) : F S w (.fn g []) (.func (.func g) #[] #[])
  | sl0 (w' : Nat) (f : Nat → Nat → AV) (a : Option Addr) (cap : Nat) : F S w (.sl 0 w' f) (.slice a 0 cap)
  | sl (n w' : Nat) (f : Nat → Nat → AV) (b o cap : Nat) (c : Nat → Nat → Value) (hS : S b) (hn : n ≤ cap)
      (hc : ∀ i j, i < n → j < w' → w.cell? ⟨b, o + i * w' + j, none⟩ = some (c i j))
      (hf : ∀ i j, i < n → j < w' → F S w (f i j) (c i j)) (h1 : ∀ i j, i < n → j < w' → (c i j).oneCell' = true) : F S w (.sl n w' f) (.slice (some ⟨b, o, none⟩) n cap)
  | fp (w' : Nat) (f : Nat → AV) (b o : Nat) (c : Nat → Value) (hS : S b)
      (hc : ∀ j, j < w' → w.cell? ⟨b, o + j, none⟩ = some (c j))
      (hf : ∀ j, j < w' → F S w (f j) (c j)) (h1 : ∀ j, j < w' → (c j).oneCell' = true) : F S w (.fp w' f) (.pointer (some ⟨b, o, none⟩))

theorem F.mono {S S' : Nat → Prop} {w w' : World} (hS : ∀ b, S b → S' b)
    (hw : ∀ b o, S b → w'.cell? ⟨b, o, none⟩ = w.cell? ⟨b, o, none⟩) {x : AV} {v : Value} (h : F S w x v) : F S' w' x v := by
  induction h with
  | bad x => exact .bad x
  | int k n => exact .int k n
  | bool b => exact .bool b
  | str s => exact .str s
  | v x => exact .v x
  | fn0 g => exact .fn0 g
  | sl0 w' f a cap => exact .sl0 w' f a cap
  | sl n w' f b o cap c h1 h2 hc hf h3 ih => exact .sl n w' f b o cap c (hS b h1) h2 (fun i j hi hj => by rw [hw b _ h1]; exact hc i j hi hj) ih h3
  | fp w' f b o c h1 hc hf h3 ih => exact .fp w' f b o c (hS b h1) (fun j hj => by rw [hw b _ h1]; exact hc j hj) ih h3

/-- A value of a frame. -/
inductive R (g : G) (sz : Nat → Nat) (w : World) : AV → Value → Prop
  | fz (x : AV) (v : Value) (h : F g.S w x v) : R g sz w x v
  | agg (xs : List AV) (cs : Array Value) (hl : cs.size = xs.length) (h : ∀ i, i < xs.length → R g sz w (xs.getD i .bad) (cs.getD i undef)) : R g sz w (.agg xs) (.agg cs)
  | tup (xs : List AV) (cs : Array Value) (hl : cs.size = xs.length) (h : ∀ i, i < xs.length → R g sz w (xs.getD i .bad) (cs.getD i undef)) : R g sz w (.tup xs) (.tuple cs)
  | refs (s w' i off ep : Nat) (x : Value) (h : ep < sz s) (hx : x.oneCell' = true) : R g sz w (.ref s w' i off ep) x
  | ref (s w' i off ep b κ : Nat) (he : ep = sz s) (h : g.β s = some (b, κ)) : R g sz w (.ref s w' i off ep) (.pointer (some ⟨b, i * w' + off, none⟩))
  | osls (s w' off len cap : Nat) (x : Value) (h : off + cap < sz s) (hx : x.oneCell' = true) : R g sz w (.osl s w' off len cap) x
  | osl0 (s w' : Nat) (a : Option Addr) (h : sz s = 0) : R g sz w (.osl s w' 0 0 0) (.slice a 0 0)
  | osl (s w' off len cap b κ : Nat) (h : g.β s = some (b, κ)) (he : off + cap = sz s) (hl : len ≤ cap) (hκ : sz s ≤ κ) (hc : 0 < cap) :
      R g sz w (.osl s w' off len cap) (.slice (some ⟨b, off * w', none⟩) len (κ - off))
  | omaps (s : Nat) (x : Value) (h : 0 < sz s) (hx : x.oneCell' = true) : R g sz w (.omap s) x
  | omap (s b κ : Nat) (he : sz s = 0) (h : g.β s = some (b, κ)) : R g sz w (.omap s) (.map (some b))
  | fn (f : Nat) (xs : List AV) (cs : Array Value) (hl : cs.size = xs.length) (h : ∀ i, i < xs.length → R g sz w (xs.getD i .bad) (cs.getD i undef)) :
      R g sz w (.fn f xs) (.func (.func f) #[] cs)

/-- What may change while values stay what they are. -/
structure Mo (g : G) (sz : Nat → Nat) (w : World) (g' : G) (sz' : Nat → Nat) (w' : World) : Prop where
  S : ∀ b, g.S b → g'.S b
  cell : ∀ b o, g.S b → w'.cell? ⟨b, o, none⟩ = w.cell? ⟨b, o, none⟩
  st : ∀ s, (g.β s = none ∧ sz s ≤ sz' s) ∨ (sz' s = sz s ∧ g'.β s = g.β s) ∨ sz s < sz' s

theorem Mo.refl (g : G) (sz : Nat → Nat) (w : World) : Mo g sz w g sz w := ⟨fun _ h => h, fun _ _ _ => rfl, fun _ => .inr (.inl ⟨rfl, rfl⟩)⟩

theorem R.bad {g : G} {sz : Nat → Nat} {w : World} (x : Value) : R g sz w .bad x := .fz _ _ (.bad x)
theorem R.int {g : G} {sz : Nat → Nat} {w : World} (k : IntKind) (n : Int) : R g sz w (.int k n) (.int k n) := .fz _ _ (.int k n)
theorem R.bool {g : G} {sz : Nat → Nat} {w : World} (b : Bool) : R g sz w (.bool b) (.bool b) := .fz _ _ (.bool b)
theorem R.str {g : G} {sz : Nat → Nat} {w : World} (s : ByteArray) : R g sz w (.str s) (.string s) := .fz _ _ (.str s)

theorem Mo.le {g : G} {sz : Nat → Nat} {w : World} {g' : G} {sz' : Nat → Nat} {w' : World} (m : Mo g sz w g' sz' w') (s : Nat) : sz s ≤ sz' s := by
  rcases m.st s with ⟨_, h⟩ | ⟨h, _⟩ | h <;> omega

theorem R.mono {g : G} {sz : Nat → Nat} {w : World} {g' : G} {sz' : Nat → Nat} {w' : World} (m : Mo g sz w g' sz' w') {x : AV} {v : Value}
    (h : R g sz w x v) : R g' sz' w' x v := by
  induction h with
  | fz x v h => exact .fz _ _ (h.mono m.S m.cell)
  | agg xs cs hl _ ih => exact .agg xs cs hl ih
  | tup xs cs hl _ ih => exact .tup xs cs hl ih
  | refs s w' i off ep x h hx => exact .refs _ _ _ _ _ _ (Nat.lt_of_lt_of_le h (m.le s)) hx
  | ref s w' i off ep b κ he h =>
    rcases m.st s with ⟨h0, _⟩ | ⟨h1, h2⟩ | h1
    · rw [h0] at h; cases h
    · exact .ref _ _ _ _ _ b κ (he.trans h1.symm) (h2.trans h)
    · exact .refs _ _ _ _ _ _ (by omega) rfl
  | osls s w' off len cap x h hx => exact .osls _ _ _ _ _ _ (Nat.lt_of_lt_of_le h (m.le s)) hx
  | osl0 s w' a h =>
    rcases Nat.eq_zero_or_pos (sz' s) with h' | h'
    · exact .osl0 _ _ _ h'
    · exact .osls _ _ _ _ _ _ (by simpa using h') rfl
  | osl s w' off len cap b κ h he hl hκ hc =>
    rcases m.st s with ⟨h0, _⟩ | ⟨h1, h2⟩ | h1
    · rw [h0] at h; cases h
    · exact .osl _ _ _ _ _ b κ (h2.trans h) (he.trans h1.symm) hl (h1 ▸ hκ) hc
    · exact .osls _ _ _ _ _ _ (by omega) rfl
  | omaps s x h hx => exact .omaps _ _ (Nat.lt_of_lt_of_le h (m.le s)) hx
  | omap s b κ he h =>
    rcases m.st s with ⟨h0, _⟩ | ⟨h1, h2⟩ | h1
    · rw [h0] at h; cases h
    · exact .omap _ b κ (h1.trans he) (h2.trans h)
    · exact .omaps _ _ (by omega) rfl
  | fn f xs cs hl _ ih => exact .fn f xs cs hl ih

/-- What a builder's second cell holds: its bytes' row, that object h owns. -/
def BV (β : Nat → Option (Nat × Nat)) (sz : Nat → Nat) (h m n : Nat) (v : Value) : Prop :=
  v.oneCell' = true ∧ (m < sz h ∨ (m = sz h ∧ ((n = 0 ∧ v = .slice none 0 0) ∨ (0 < n ∧ ∃ b κ, β h = some (b, κ) ∧ v = .slice (some ⟨b, 0, none⟩) n κ))))
theorem BV.mono {g : G} {sz : Nat → Nat} {w : World} {g' : G} {sz' : Nat → Nat} {w' : World} (m : Mo g sz w g' sz' w') {h k n : Nat} {v : Value} (hv : BV g.β sz h k n v) : BV g'.β sz' h k n v := by
  refine ⟨hv.1, ?_⟩
  have hle := m.le h
  rcases hv.2 with h1 | ⟨h1, h2⟩
  · exact .inl (by omega)
  · rcases Nat.eq_or_lt_of_le hle with he | hlt
    · refine .inr ⟨h1.trans he, ?_⟩
      rcases h2 with h2 | ⟨h2, b, κ, h3, h4⟩
      · exact .inl h2
      · rcases m.st h with ⟨h0, _⟩ | ⟨_, h5⟩ | h5
        · rw [h0] at h3; cases h3
        · exact .inr ⟨h2, b, κ, h5.trans h3, h4⟩
        · omega
    · exact .inl (by omega)
theorem BV.same {β β' : Nat → Option (Nat × Nat)} {sz sz' : Nat → Nat} {h h' m n : Nat} {v : Value} (hβ : β' h' = β h) (hs : sz' h' = sz h) (hv : BV β sz h m n v) : BV β' sz' h' m n v := by
  unfold BV at hv ⊢
  rw [hβ, hs]
  exact hv

def ObR (g : G) (sz : Nat → Nat) (w : World) (s : Nat) : Ob → Prop
  | .box xs => ∃ b κ cs T, g.β s = some (b, κ) ∧ w.heap[b]? = some (.cells cs T (0, 0)) ∧ cs.size = xs.length ∧
      ∀ i, i < xs.length → R g sz w (xs.getD i .bad) (cs.getD i undef)
  | .buf n w' f => n = 0 ∨ ∃ b κ cs T, g.β s = some (b, κ) ∧ w.heap[b]? = some (.cells cs T (0, 0)) ∧ n ≤ κ ∧ cs.size = κ * w' ∧
      ∀ i j, i < n → j < w' → F g.S w (f i j) (cs.getD (i * w' + j) undef) ∧ (cs.getD (i * w' + j) undef).oneCell' = true
  | .mp ks f => ∃ b κ ms, g.β s = some (b, κ) ∧ w.heap[b]? = some (.map ms ms.size) ∧ ms.toList.map (·.key) = ks.vals ∧
      ∀ i (hi : i < ms.size), ms[i].born = i ∧ F g.S w (f i) ms[i].val ∧ ms[i].val.oneCell' = true
  | .it t p => ∃ b κ, g.β s = some (b, κ) ∧ w.heap[b]? = some (.stringIter t p)
  | .bx T h m n => ∃ b κ p v, g.β s = some (b, κ) ∧ w.heap[b]? = some (.cells #[p, v] T (0, 0)) ∧ (p = .pointer none ∨ p = .pointer (some ⟨b, 0, none⟩)) ∧ BV g.β sz h m n v
  | .bb T _ t => t.size = 0 ∨ ∃ b κ cur fz, g.β s = some (b, κ) ∧ w.heap[b]? = some (.cells cur T fz) ∧ fz.2 ≤ t.size ∧ t.size ≤ κ ∧ κ ≤ maxLen ∧ cur.size = κ ∧ cur.toList.take t.size = Lib.strCells t
  | .mit m n rem cur => ∃ b κ bo seen, g.β s = some (b, κ) ∧ w.heap[b]? = some (.mapIter (some bo) n seen n) ∧ (0 < sz m ∨ (sz m = 0 ∧ ∃ κm, g.β m = some (bo, κm))) ∧
      (∀ i, i < n → (seen.contains i = false ↔ i ∈ rem)) ∧ (∀ i ∈ rem, i < n) ∧ rem.Nodup ∧ (cur < n → seen.back? = some cur)

structure OR (g : G) (L : Obs) (w : World) : Prop where
  ob : ∀ s o, L s = some o → ObR g (szf L) w s o
  own : ∀ s b κ, g.β s = some (b, κ) → (L s).isSome = true ∧ b < w.heap.size ∧ ¬ g.S b
  inj : ∀ s s' b κ κ', g.β s = some (b, κ) → g.β s' = some (b, κ') → s = s'
  fz : ∀ b, g.S b → b < w.heap.size

def G.own (g : G) (b : Nat) : Prop := ∃ s κ, g.β s = some (b, κ)

/-- What a piece of work may have touched. -/
structure Fr (g : G) (w : World) (g' : G) (w' : World) : Prop where
  os : w'.os = w.os
  tape : w'.tape = w.tape
  out : w'.output = w.output
  size : w.heap.size ≤ w'.heap.size
  heap : ∀ b, b < w.heap.size → ¬ g.own b → w'.heap[b]? = w.heap[b]?
  S : ∀ b, g.S b → g'.S b
  S' : ∀ b, g'.S b → g.S b ∨ g.own b ∨ w.heap.size ≤ b
  own : ∀ b, g'.own b → g.own b ∨ w.heap.size ≤ b

theorem Fr.refl (g : G) (w : World) : Fr g w g w := ⟨rfl, rfl, rfl, Nat.le_refl _, fun _ _ _ => rfl, fun _ h => h, fun _ h => .inl h, fun _ h => .inl h⟩

theorem Fr.trans {g : G} {w : World} {g1 : G} {w1 : World} {g2 : G} {w2 : World} (h : Fr g w g1 w1) (k : Fr g1 w1 g2 w2) : Fr g w g2 w2 where
  os := k.os.trans h.os
  tape := k.tape.trans h.tape
  out := k.out.trans h.out
  size := Nat.le_trans h.size k.size
  heap b hb hn := (k.heap b (Nat.lt_of_lt_of_le hb h.size) (fun ho => (h.own b ho).elim hn (fun h' => absurd hb (by omega)))).trans (h.heap b hb hn)
  S b hb := k.S b (h.S b hb)
  S' b hb := by
    rcases k.S' b hb with h1 | h1 | h1
    · exact h.S' b h1
    · exact (h.own b h1).elim (fun x => .inr (.inl x)) (fun x => .inr (.inr x))
    · exact .inr (.inr (Nat.le_trans h.size h1))
  own b hb := by
    rcases k.own b hb with h1 | h1
    · exact h.own b h1
    · exact .inr (Nat.le_trans h.size h1)

theorem cell_eq {w w' : World} {b : Nat} (h : w'.heap[b]? = w.heap[b]?) (o : Nat) : w'.cell? ⟨b, o, none⟩ = w.cell? ⟨b, o, none⟩ := by
  simp [World.cell?, h]

theorem OR.S_own {g : G} {L : Obs} {w : World} (h : OR g L w) {b : Nat} (hb : g.S b) : ¬ g.own b := fun ⟨s, κ, e⟩ => (h.own s b κ e).2.2 hb

/-- What is left alone: the values of a frame under a piece of work that had other objects. -/
theorem Fr.cell {g : G} {L : Obs} {w : World} {g' : G} {w' : World} (h : Fr g w g' w') (o : OR g L w) (b k : Nat) (hb : g.S b) : w'.cell? ⟨b, k, none⟩ = w.cell? ⟨b, k, none⟩ :=
  cell_eq (h.heap b (o.fz b hb) (o.S_own hb)) k

inductive Eff where
  | no
  | new (s : Nat) (o : Ob)
  | upd (s : Nat) (o : Ob)

def Eff.app : Eff → Obs → Obs
  | .no, L => L
  | .new s o, L => fun i => bif Nat.beq i s then some o else L i
  | .upd s o, L => fun i => bif Nat.beq i s then some o else L i

/-- What became of objects: they are there still, and where they have other memory they are longer. -/
def Kp (g : G) (L : Obs) (g' : G) (L' : Obs) : Prop :=
  ∀ s, (L s).isSome = true → (L' s).isSome = true ∧ ((szf L' s = szf L s ∧ g'.β s = g.β s) ∨ szf L s < szf L' s)
theorem Kp.refl (g : G) (L : Obs) : Kp g L g L := fun _ h => ⟨h, .inl ⟨rfl, rfl⟩⟩
theorem Kp.trans {g : G} {L : Obs} {g1 : G} {L1 : Obs} {g2 : G} {L2 : Obs} (h : Kp g L g1 L1) (k : Kp g1 L1 g2 L2) : Kp g L g2 L2 := fun s hs => by
  obtain ⟨h1, h2⟩ := h s hs
  obtain ⟨k1, k2⟩ := k s h1
  refine ⟨k1, ?_⟩
  rcases h2 with ⟨a, b⟩ | a <;> rcases k2 with ⟨c, d⟩ | c
  · exact .inl ⟨c.trans a, d.trans b⟩
  · exact .inr (by omega)
  · exact .inr (by omega)
  · exact .inr (by omega)

structure Stp (g : G) (L : Obs) (w : World) (g' : G) (L' : Obs) (w' : World) : Prop where
  o : OR g' L' w'
  f : Fr g w g' w'
  m : Mo g (szf L) w g' (szf L') w'
  k : Kp g L g' L'

theorem Stp.refl {g : G} {L : Obs} {w : World} (h : OR g L w) : Stp g L w g L w := ⟨h, Fr.refl g w, Mo.refl g _ w, Kp.refl g L⟩
end Go.EV
namespace Go.EV
open Go

theorem beq_self (s : Nat) : Nat.beq s s = true := by simp
theorem beq_ne {i s : Nat} (h : i ≠ s) : Nat.beq i s = false := by
  cases e : Nat.beq i s
  · rfl
  · exact absurd (Nat.eq_of_beq_eq_true e) h

def upd1 {α : Type} (f : Nat → α) (s : Nat) (v : α) : Nat → α := fun i => bif Nat.beq i s then v else f i
theorem upd1_self {α : Type} (f : Nat → α) (s : Nat) (v : α) : upd1 f s v s = v := by simp [upd1]
theorem upd1_ne {α : Type} (f : Nat → α) {i s : Nat} (v : α) (h : i ≠ s) : upd1 f s v i = f i := by simp [upd1, beq_ne h]

theorem ObR.mono {g : G} {sz : Nat → Nat} {w : World} {g' : G} {sz' : Nat → Nat} {w' : World} (m : Mo g sz w g' sz' w') {s : Nat} {o : Ob}
    (hβ : g'.β s = g.β s) (hb : ∀ b κ, g.β s = some (b, κ) → w'.heap[b]? = w.heap[b]?) (h : ObR g sz w s o) : ObR g' sz' w' s o := by
  cases o with
  | box xs =>
    obtain ⟨b, κ, cs, T, h1, h2, h3, h4⟩ := h
    exact ⟨b, κ, cs, T, hβ.trans h1, (hb b κ h1).trans h2, h3, fun i hi => (h4 i hi).mono m⟩
  | buf n w1 f =>
    rcases h with h | ⟨b, κ, cs, T, h1, h2, h3, h4, h5⟩
    · exact .inl h
    · exact .inr ⟨b, κ, cs, T, hβ.trans h1, (hb b κ h1).trans h2, h3, h4, fun i j hi hj => ⟨(h5 i j hi hj).1.mono m.S m.cell, (h5 i j hi hj).2⟩⟩
  | mp ks f =>
    obtain ⟨b, κ, ms, h1, h2, h3, h4⟩ := h
    exact ⟨b, κ, ms, hβ.trans h1, (hb b κ h1).trans h2, h3, fun i hi => ⟨(h4 i hi).1, (h4 i hi).2.1.mono m.S m.cell, (h4 i hi).2.2⟩⟩
  | it t p =>
    obtain ⟨b, κ, h1, h2⟩ := h
    exact ⟨b, κ, hβ.trans h1, (hb b κ h1).trans h2⟩
  | bx T k n l =>
    obtain ⟨b, κ, p, v, h1, h2, h3, h4⟩ := h
    exact ⟨b, κ, p, v, hβ.trans h1, (hb b κ h1).trans h2, h3, h4.mono m⟩
  | bb T n t =>
    rcases h with h | ⟨b, κ, cur, fz, h1, h2, h3⟩
    · exact .inl h
    · exact .inr ⟨b, κ, cur, fz, hβ.trans h1, (hb b κ h1).trans h2, h3⟩
  | mit m0 n rem cur =>
    obtain ⟨b, κ, bo, seen, h1, h2, h3, h4⟩ := h
    refine ⟨b, κ, bo, seen, hβ.trans h1, (hb b κ h1).trans h2, ?_, h4⟩
    rcases h3 with h3 | ⟨h3, κm, h5⟩
    · exact .inl (Nat.lt_of_lt_of_le h3 (m.le m0))
    · rcases m.st m0 with ⟨h0, _⟩ | ⟨h6, h7⟩ | h6
      · rw [h0] at h5; cases h5
      · exact .inr ⟨h6.trans h3, κm, h7.trans h5⟩
      · exact .inl (by omega)

theorem OR.none_of {g : G} {L : Obs} {w : World} (hO : OR g L w) {s : Nat} (hs : L s = none) : g.β s = none := by
  cases e : g.β s with
  | none => rfl
  | some x => have := (hO.own s x.1 x.2 e).1; rw [hs] at this; cases this

/-- A step that changes one object. -/
theorem Stp.one {g : G} {L : Obs} {w : World} (hO : OR g L w) (s : Nat) {g' : G} {L' : Obs} {w' : World}
    (os : w'.os = w.os) (tape : w'.tape = w.tape) (out : w'.output = w.output) (size : w.heap.size ≤ w'.heap.size)
    (hβ : ∀ i, i ≠ s → g'.β i = g.β i) (hL : ∀ i, i ≠ s → L' i = L i) (hS : g'.S = g.S)
    (heap : ∀ b, b < w.heap.size → (∀ κ, g.β s ≠ some (b, κ)) → w'.heap[b]? = w.heap[b]?)
    (hs : ∀ b κ, g'.β s = some (b, κ) → (L' s).isSome = true ∧ b < w'.heap.size ∧ (w.heap.size ≤ b ∨ ∃ κ', g.β s = some (b, κ')))
    (hm : L s = none ∨ ((L' s).isSome = true ∧ ((szf L' s = szf L s ∧ g'.β s = g.β s) ∨ szf L s < szf L' s)))
    (hob : Mo g (szf L) w g' (szf L') w' → ∀ o, L' s = some o → ObR g' (szf L') w' s o) : Stp g L w g' L' w' := by
  have hcell : ∀ b o, g.S b → w'.cell? ⟨b, o, none⟩ = w.cell? ⟨b, o, none⟩ := fun b o hb =>
    cell_eq (heap b (hO.fz b hb) (fun κ e => (hO.own s b κ e).2.2 hb)) o
  have hmo : Mo g (szf L) w g' (szf L') w' := by
    refine ⟨fun b h => hS ▸ h, hcell, fun i => ?_⟩
    by_cases e : i = s
    · subst e
      rcases hm with hm | ⟨_, hm⟩
      · exact .inl ⟨hO.none_of hm, by simp [szf, hm, szOf]⟩
      · exact .inr hm
    · exact .inr (.inl ⟨by simp [szf, hL i e], hβ i e⟩)
  have old : ∀ i b κ, i ≠ s → g.β i = some (b, κ) → ∀ κ', g.β s ≠ some (b, κ') := fun i b κ hi h κ' h' => hi (hO.inj i s b κ κ' h h')
  refine ⟨⟨fun i o ho => ?_, fun i b κ h => ?_, fun i j b κ κ' h h' => ?_, fun b hb => ?_⟩, ⟨os, tape, out, size, fun b hb hn => ?_, fun b h => hS ▸ h, fun b h => .inl (hS ▸ h), ?_⟩, hmo, fun i hi => ?_⟩
  · by_cases e : i = s
    · subst e; exact hob hmo o ho
    · rw [hL i e] at ho
      exact (hO.ob i o ho).mono hmo (hβ i e) (fun b κ h => heap b (hO.own i b κ h).2.1 (old i b κ e h))
  · by_cases e : i = s
    · subst e
      obtain ⟨h1, h2, h3⟩ := hs b κ h
      refine ⟨h1, h2, fun h4 => ?_⟩
      rw [hS] at h4
      rcases h3 with h3 | ⟨κ', h3⟩
      · exact absurd (hO.fz b h4) (by omega)
      · exact (hO.own i b κ' h3).2.2 h4
    · rw [hβ i e] at h
      obtain ⟨h1, h2, h3⟩ := hO.own i b κ h
      exact ⟨by rw [hL i e]; exact h1, Nat.lt_of_lt_of_le h2 size, by rw [hS]; exact h3⟩
  · by_cases e : i = s
    · by_cases e' : j = s
      · rw [e, e']
      · exfalso
        subst e
        rw [hβ j e'] at h'
        rcases (hs b κ h).2.2 with h3 | ⟨κ'', h3⟩
        · exact absurd (hO.own j b κ' h').2.1 (by omega)
        · exact old j b κ' e' h' κ'' h3
    · by_cases e' : j = s
      · exfalso
        subst e'
        rw [hβ i e] at h
        rcases (hs b κ' h').2.2 with h3 | ⟨κ'', h3⟩
        · exact absurd (hO.own i b κ h).2.1 (by omega)
        · exact old i b κ e h κ'' h3
      · rw [hβ i e] at h; rw [hβ j e'] at h'
        exact hO.inj i j b κ κ' h h'
  · rw [hS] at hb; exact Nat.lt_of_lt_of_le (hO.fz b hb) size
  · exact heap b hb (fun κ e => hn ⟨s, κ, e⟩)
  · rintro b ⟨i, κ, h⟩
    by_cases e : i = s
    · subst e
      rcases (hs b κ h).2.2 with h3 | ⟨κ', h3⟩
      · exact .inr h3
      · exact .inl ⟨i, κ', h3⟩
    · rw [hβ i e] at h; exact .inl ⟨i, κ, h⟩
  · by_cases e : i = s
    · subst e
      rcases hm with hm | hm
      · rw [hm] at hi; cases hi
      · exact hm
    · exact ⟨by rw [hL i e]; exact hi, .inl ⟨by simp [szf, hL i e], hβ i e⟩⟩

theorem push_old (w : World) (o : Obj) (b : Nat) (h : b < w.heap.size) : (w.alloc o).heap[b]? = w.heap[b]? := by
  show (w.heap.push o)[b]? = _
  rw [Array.getElem?_push, if_neg (by omega)]
theorem push_new (w : World) (o : Obj) : (w.alloc o).heap[w.heap.size]? = some o := by
  show (w.heap.push o)[w.heap.size]? = _
  simp
theorem push_size (w : World) (o : Obj) : (w.alloc o).heap.size = w.heap.size + 1 := by show (w.heap.push o).size = _; simp

def G.at (g : G) (s b κ : Nat) : G := ⟨g.S, upd1 g.β s (some (b, κ))⟩

theorem app_new (L : Obs) (s : Nat) (o : Ob) : (Eff.new s o).app L = upd1 L s (some o) := rfl
theorem app_upd (L : Obs) (s : Nat) (o : Ob) : (Eff.upd s o).app L = upd1 L s (some o) := rfl

theorem Stp.new {g : G} {L : Obs} {w : World} (hO : OR g L w) {s : Nat} (hs : L s = none) (o : Ob) (ob : Obj) (κ : Nat)
    (hob : ∀ g' sz', Mo g (szf L) w g' sz' (w.alloc ob) → g'.β s = some (w.heap.size, κ) → ObR g' sz' (w.alloc ob) s o) :
    Stp g L w (g.at s w.heap.size κ) ((Eff.new s o).app L) (w.alloc ob) := by
  have hn := hO.none_of hs
  refine Stp.one hO s rfl rfl rfl (by rw [push_size]; omega) (fun i hi => upd1_ne _ _ hi) (fun i hi => upd1_ne _ _ hi) rfl (fun b hb _ => push_old w ob b hb) ?_ (.inl hs) ?_
  · intro b κ' h
    have h : some (w.heap.size, κ) = some (b, κ') := by simpa [G.at, upd1_self] using h
    cases h
    exact ⟨by simp [app_new, upd1_self], by rw [push_size]; omega, .inl (Nat.le_refl _)⟩
  · intro hm o' ho'
    have : o' = o := by simpa [app_new, upd1_self] using ho'.symm
    subst this
    exact hob _ _ hm (upd1_self _ _ _)

theorem Stp.box {g : G} {L : Obs} {w : World} (hO : OR g L w) {s : Nat} (hs : L s = none) (xs : List AV) (cs : Array Value) (T : TypeId)
    (hl : cs.size = xs.length) (hr : ∀ i, i < xs.length → R g (szf L) w (xs.getD i .bad) (cs.getD i undef)) :
    Stp g L w (g.at s w.heap.size xs.length) ((Eff.new s (.box xs)).app L) (w.alloc (.cells cs T)) :=
  Stp.new hO hs _ _ _ fun _ _ hm hβ => ⟨_, _, cs, T, hβ, push_new w _, hl, fun i hi => (hr i hi).mono hm⟩

theorem Stp.buf {g : G} {L : Obs} {w : World} (hO : OR g L w) {s : Nat} (hs : L s = none) (n κ w' : Nat) (f : Nat → Nat → AV) (cs : Array Value) (T : TypeId)
    (hn : n ≤ κ) (hl : cs.size = κ * w') (hr : ∀ i j, i < n → j < w' → F g.S w (f i j) (cs.getD (i * w' + j) undef) ∧ (cs.getD (i * w' + j) undef).oneCell' = true) :
    Stp g L w (g.at s w.heap.size κ) ((Eff.new s (.buf n w' f)).app L) (w.alloc (.cells cs T)) :=
  Stp.new hO hs _ _ _ fun _ _ hm hβ => .inr ⟨_, _, cs, T, hβ, push_new w _, hn, hl, fun i j hi hj => ⟨(hr i j hi hj).1.mono hm.S hm.cell, (hr i j hi hj).2⟩⟩

/-- New memory that is never written: it belongs to no object. -/
theorem Stp.fz {g : G} {L : Obs} {w : World} (hO : OR g L w) (ob : Obj) :
    Stp g L w ⟨fun b => g.S b ∨ b = w.heap.size, g.β⟩ L (w.alloc ob) := by
  have hcell : ∀ b o, g.S b → (w.alloc ob).cell? ⟨b, o, none⟩ = w.cell? ⟨b, o, none⟩ := fun b o hb => cell_eq (push_old w ob b (hO.fz b hb)) o
  have hmo : Mo g (szf L) w ⟨fun b => g.S b ∨ b = w.heap.size, g.β⟩ (szf L) (w.alloc ob) := ⟨fun b h => .inl h, hcell, fun i => .inr (.inl ⟨rfl, rfl⟩)⟩
  refine ⟨⟨fun i o ho => (hO.ob i o ho).mono hmo rfl (fun b κ h => push_old w ob b (hO.own i b κ h).2.1), fun i b κ h => ?_, hO.inj, fun b hb => ?_⟩,
    ⟨rfl, rfl, rfl, by rw [push_size]; omega, fun b hb _ => push_old w ob b hb, fun b h => .inl h, ?_, fun b h => .inl h⟩, hmo, Kp.refl _ _⟩
  · obtain ⟨h1, h2, h3⟩ := hO.own i b κ h
    exact ⟨h1, by rw [push_size]; omega, fun h4 => h4.elim h3 (fun e => by omega)⟩
  · rw [push_size]
    rcases hb with hb | hb
    · have := hO.fz b hb; omega
    · omega
  · rintro b (h | h)
    · exact .inl h
    · exact .inr (.inr (by omega))

/-- An object's own block is written. -/
theorem Stp.write {g : G} {L : Obs} {w : World} (hO : OR g L w) {s b κ : Nat} (hβ : g.β s = some (b, κ)) (o : Ob) (cs : Array Value) (hsz : szf L s ≤ szOf (some o))
    (hob : Mo g (szf L) w g (szf ((Eff.upd s o).app L)) (w.setRow b cs) → ObR g (szf ((Eff.upd s o).app L)) (w.setRow b cs) s o) :
    Stp g L w g ((Eff.upd s o).app L) (w.setRow b cs) := by
  have hb := (hO.own s b κ hβ).2.1
  have hsz' : szf ((Eff.upd s o).app L) s = szOf (some o) := by simp [szf, app_upd, upd1_self]
  refine Stp.one hO s rfl rfl rfl (by simp [World.setRow]) (fun i _ => rfl) (fun i hi => upd1_ne _ _ hi) rfl ?_ ?_ ?_ ?_
  · intro b' hb' hn
    have : b ≠ b' := fun e => hn κ (by rw [← e]; exact hβ)
    simp [World.setRow, Array.getElem?_modify, this]
  · intro b' κ' h
    refine ⟨by simp [app_upd, upd1_self], ?_, .inr ⟨κ', h⟩⟩
    rw [hβ] at h; cases h; simpa [World.setRow] using hb
  · refine .inr ⟨by simp [app_upd, upd1_self], ?_⟩
    rcases Nat.eq_or_lt_of_le hsz with h | h
    · exact .inl ⟨by rw [hsz', h], rfl⟩
    · exact .inr (by rw [hsz']; exact h)
  · intro hm o' ho'
    have : o' = o := by simpa [app_upd, upd1_self] using ho'.symm
    subst this
    exact hob hm

/-- An object of no length; beside it new memory that nobody owns. -/
theorem Stp.ghostA {g : G} {L : Obs} {w : World} (hO : OR g L w) {s : Nat} (hs : L s = none) (w1 : Nat) (f : Nat → Nat → AV) (ob : Obj) : Stp g L w g ((Eff.new s (.buf 0 w1 f)).app L) (w.alloc ob) := by
  have hn := hO.none_of hs
  refine Stp.one hO s rfl rfl rfl (by rw [push_size]; omega) (fun _ _ => rfl) (fun i hi => upd1_ne _ _ hi) rfl (fun b hb _ => push_old w ob b hb) (fun b κ h => by rw [hn] at h; cases h) (.inl hs) ?_
  intro hm o ho
  have : o = .buf 0 w1 f := by simpa [app_new, upd1_self] using ho.symm
  subst this
  exact .inl rfl
/-- A block holds another object. -/
def setO (w : World) (b : Nat) (o : Obj) : World := { w with heap := w.heap.setIfInBounds b o }
theorem setO_at {w : World} {b : Nat} {o o1 : Obj} (h : w.heap[b]? = some o1) : (setO w b o).heap[b]? = some o := by
  have hlt : b < w.heap.size := (Array.getElem?_eq_some_iff.1 h).1
  simp [setO, hlt]
theorem Stp.put {g : G} {L : Obs} {w : World} (hO : OR g L w) {s b κ : Nat} (hβ : g.β s = some (b, κ)) (o : Ob) (ob : Obj) (hsz : szf L s ≤ szOf (some o))
    (hob : Mo g (szf L) w g (szf ((Eff.upd s o).app L)) (setO w b ob) → ObR g (szf ((Eff.upd s o).app L)) (setO w b ob) s o) :
    Stp g L w g ((Eff.upd s o).app L) (setO w b ob) := by
  have hb := (hO.own s b κ hβ).2.1
  have hsz' : szf ((Eff.upd s o).app L) s = szOf (some o) := by simp [szf, app_upd, upd1_self]
  refine Stp.one hO s rfl rfl rfl (by simp [setO]) (fun i _ => rfl) (fun i hi => upd1_ne _ _ hi) rfl ?_ ?_ ?_ ?_
  · intro b' hb' hn
    have : b ≠ b' := fun e => hn κ (by rw [← e]; exact hβ)
    simp [setO, this]
  · intro b' κ' h
    refine ⟨by simp [app_upd, upd1_self], ?_, .inr ⟨κ', h⟩⟩
    rw [hβ] at h; cases h; simpa [setO] using hb
  · refine .inr ⟨by simp [app_upd, upd1_self], ?_⟩
    rcases Nat.eq_or_lt_of_le hsz with h | h
    · exact .inl ⟨by rw [hsz', h], rfl⟩
    · exact .inr (by rw [hsz']; exact h)
  · intro hm o' ho'
    have : o' = o := by simpa [app_upd, upd1_self] using ho'.symm
    subst this
    exact hob hm

/-- An object gets another block, and is longer. -/
theorem Stp.grow {g : G} {L : Obs} {w : World} (hO : OR g L w) {s : Nat} (n κ w' : Nat) (f : Nat → Nat → AV) (cs : Array Value) (T : TypeId)
    (hsz : szf L s < n) (hn : n ≤ κ) (hl : cs.size = κ * w') (hr : ∀ i j, i < n → j < w' → F g.S w (f i j) (cs.getD (i * w' + j) undef) ∧ (cs.getD (i * w' + j) undef).oneCell' = true) :
    Stp g L w (g.at s w.heap.size κ) ((Eff.upd s (.buf n w' f)).app L) (w.alloc (.cells cs T)) := by
  have hsz' : szf ((Eff.upd s (.buf n w' f)).app L) s = n := by simp [szf, app_upd, upd1_self, szOf]
  refine Stp.one hO s rfl rfl rfl (by rw [push_size]; omega) (fun i hi => upd1_ne _ _ hi) (fun i hi => upd1_ne _ _ hi) rfl (fun b hb _ => push_old w _ b hb) ?_ (.inr ⟨by simp [app_upd, upd1_self], .inr (by rw [hsz']; exact hsz)⟩) ?_
  · intro b κ' h
    have h : some (w.heap.size, κ) = some (b, κ') := by simpa [G.at, upd1_self] using h
    cases h
    exact ⟨by simp [app_upd, upd1_self], by rw [push_size]; omega, .inl (Nat.le_refl _)⟩
  · intro hm o' ho'
    have : o' = .buf n w' f := by simpa [app_upd, upd1_self] using ho'.symm
    subst this
    exact .inr ⟨_, _, cs, T, upd1_self _ _ _, push_new w _, hn, hl, fun i j hi hj => ⟨(hr i j hi hj).1.mono hm.S hm.cell, (hr i j hi hj).2⟩⟩
end Go.EV
namespace Go.EV
open Go Go.RowKit
set_option linter.unusedSimpArgs false

/-- What is known of a type. -/
structure TI where
  desc : TypeDesc
  info : TypeInfo

abbrev Ty := Nat → Option TI

def isAggD : TypeDesc → Bool
  | .struct _ | .array _ _ => true
  | _ => false
structure TyAt (P : Program) (t : TypeId) (ti : TI) : Prop where
  u : P.underlying t = some ti.desc
  i : P.info? t = some ti.info
  q : isAggD ti.desc = true → P.stoodInHeld t = false ∧ P.eqGuardType P.depth t = false

def TyOK (P : Program) (τ : Ty) : Prop := ∀ t i, τ t = some i → TyAt P t i

/-- The outcome of an operation. -/
inductive OT where
  | fail
  | br (b : Bool) (t e : OT)
  | req (p : Prop) (t : OT)
  | val (v : AV) (e : Eff)

def OT.Leaf (v : AV) (e : Eff) : OT → Prop
  | .fail => False
  | .br b x y => (b = true ∧ x.Leaf v e) ∨ (b = false ∧ y.Leaf v e)
  | .req p x => p ∧ x.Leaf v e
  | .val v' e' => v' = v ∧ e' = e

theorem Leaf.fail {v : AV} {e : Eff} : OT.Leaf v e .fail = False := rfl
theorem Leaf.br {v : AV} {e : Eff} {b : Bool} {x y : OT} : OT.Leaf v e (.br b x y) = ((b = true ∧ x.Leaf v e) ∨ (b = false ∧ y.Leaf v e)) := rfl
theorem Leaf.req {v : AV} {e : Eff} {p : Prop} {x : OT} : OT.Leaf v e (.req p x) = (p ∧ x.Leaf v e) := rfl
theorem Leaf.val {v : AV} {e : Eff} {v' : AV} {e' : Eff} : OT.Leaf v e (.val v' e') = (v' = v ∧ e' = e) := rfl

def wrapK (k : IntKind) (n : Int) : Int :=
  match k with
  | .i64 => wrap64 n
  | .u8 => n % 256
  | k => k.wrap n
theorem wrapK_eq (k : IntKind) (n : Int) : wrapK k n = k.wrap n := by
  cases k <;> simp only [wrapK]
  · simp only [IntKind.wrap, IntKind.bits, IntKind.signed, wrap64]; simp; split <;> omega
  · simp [IntKind.wrap, IntKind.bits, IntKind.signed]

section
variable {g : G} {sz : Nat → Nat} {w : World}
theorem R.int_inv {k : IntKind} {n : Int} {v : Value} (h : R g sz w (.int k n) v) : v = .int k n := by cases h with | fz _ _ h => cases h; rfl
theorem R.bool_inv {b : Bool} {v : Value} (h : R g sz w (.bool b) v) : v = .bool b := by cases h with | fz _ _ h => cases h; rfl
theorem R.str_inv {s : ByteArray} {v : Value} (h : R g sz w (.str s) v) : v = .string s := by cases h with | fz _ _ h => cases h; rfl
theorem R.v_inv {x : Value} {v : Value} (h : R g sz w (.v x) v) : v = x := by cases h with | fz _ _ h => cases h; rfl
theorem R.agg_inv {xs : List AV} {v : Value} (h : R g sz w (.agg xs) v) : ∃ cs, v = .agg cs ∧ cs.size = xs.length ∧ ∀ i, i < xs.length → R g sz w (xs.getD i .bad) (cs.getD i undef) := by
  cases h with
  | fz _ _ h => cases h
  | agg _ cs hl h => exact ⟨cs, rfl, hl, h⟩
theorem R.tup_inv {xs : List AV} {v : Value} (h : R g sz w (.tup xs) v) : ∃ cs, v = .tuple cs ∧ cs.size = xs.length ∧ ∀ i, i < xs.length → R g sz w (xs.getD i .bad) (cs.getD i undef) := by
  cases h with
  | fz _ _ h => cases h
  | tup _ cs hl h => exact ⟨cs, rfl, hl, h⟩
theorem R.sl_inv {n w' : Nat} {f : Nat → Nat → AV} {v : Value} (h : R g sz w (.sl n w' f) v) : F g.S w (.sl n w' f) v := by cases h with | fz _ _ h => exact h
theorem R.fp_inv {w' : Nat} {f : Nat → AV} {v : Value} (h : R g sz w (.fp w' f) v) : F g.S w (.fp w' f) v := by cases h with | fz _ _ h => exact h
theorem R.fn_inv {f : Nat} {xs : List AV} {v : Value} (h : R g sz w (.fn f xs) v) :
    ∃ cs, v = .func (.func f) #[] cs ∧ cs.size = xs.length ∧ ∀ i, i < xs.length → R g sz w (xs.getD i .bad) (cs.getD i undef) := by
  cases h with
  | fz _ _ h => cases h; exact ⟨#[], rfl, rfl, fun i hi => absurd hi (by simp)⟩
  | fn _ _ cs hl h => exact ⟨cs, rfl, hl, h⟩
theorem F.sl_inv {S : Nat → Prop} {n w' : Nat} {f : Nat → Nat → AV} {v : Value} (h : F S w (.sl n w' f) v) :
    ∃ a cap, v = .slice a n cap ∧ (0 < n → ∃ (b o : Nat) (c : Nat → Nat → Value), a = some ⟨b, o, none⟩ ∧ S b ∧ (∀ i j, i < n → j < w' → w.cell? ⟨b, o + i * w' + j, none⟩ = some (c i j)) ∧ (∀ i j, i < n → j < w' → F S w (f i j) (c i j)) ∧ ∀ i j, i < n → j < w' → (c i j).oneCell' = true) := by
  cases h with
  | sl0 _ _ a cap => exact ⟨a, cap, rfl, fun h => absurd h (by omega)⟩
  | sl _ _ _ b o cap c hS hn hc hf h1 => exact ⟨_, cap, rfl, fun _ => ⟨b, o, c, rfl, hS, hc, hf, h1⟩⟩
theorem F.fp_inv {S : Nat → Prop} {w' : Nat} {f : Nat → AV} {v : Value} (h : F S w (.fp w' f) v) :
    ∃ (b o : Nat) (c : Nat → Value), v = .pointer (some ⟨b, o, none⟩) ∧ S b ∧ (∀ j, j < w' → w.cell? ⟨b, o + j, none⟩ = some (c j)) ∧ (∀ j, j < w' → F S w (f j) (c j)) ∧ ∀ j, j < w' → (c j).oneCell' = true := by
  cases h with | fp _ _ b o c hS hc hf h1 => exact ⟨b, o, c, rfl, hS, hc, hf, h1⟩
end

/-! ### numbers, texts -/
def mx (a b : Int) : Int := if a < b then b else a
def mn (a b : Int) : Int := if b < a then b else a
def bt (s : ByteArray) (i : Int) : Int := if h : i.toNat < s.size then ((s[i.toNat]'h).toNat : Int) else 0

def intE (op : BinOp) (k : IntKind) (a b : Int) : OT :=
  match op with
  | .add => .val (.int k (wrapK k (a + b))) .no
  | .sub => .val (.int k (wrapK k (a - b))) .no
  | .mul => .val (.int k (wrapK k (a * b))) .no
  | .quo => .br (decide (b = 0)) .fail (.val (.int k (wrapK k (a.tdiv b))) .no)
  | .rem => .br (decide (b = 0)) .fail (.val (.int k (a.tmod b)) .no)
  | .eql => .val (.bool (decide (a = b))) .no
  | .neq => .val (.bool (!decide (a = b))) .no
  | .lss => .val (.bool (decide (a < b))) .no
  | .leq => .val (.bool (decide (a ≤ b))) .no
  | .gtr => .val (.bool (decide (a > b))) .no
  | .geq => .val (.bool (decide (a ≥ b))) .no
  | .and => .val (.int k (k.wrap (BitVec.ofInt k.bits a &&& BitVec.ofInt k.bits b).toNat)) .no
  | .or => .val (.int k (k.wrap (BitVec.ofInt k.bits a ||| BitVec.ofInt k.bits b).toNat)) .no
  | .xor => .val (.int k (k.wrap (BitVec.ofInt k.bits a ^^^ BitVec.ofInt k.bits b).toNat)) .no
  | _ => .fail

def shE (op : BinOp) (k : IntKind) (a b : Int) : OT :=
  match op with
  | .shl => .br (decide (b < 0)) .fail (.val (.int k (wrapK k (a * 2 ^ (min b.toNat k.bits)))) .no)
  | .shr => .br (decide (b < 0)) .fail (.val (.int k (a.fdiv (2 ^ (min b.toNat k.bits)))) .no)
  | _ => .fail

def strE (op : BinOp) (a b : ByteArray) : OT :=
  match op with
  | .add => .br (decide (a.size + b.size ≤ 9223372036854775807)) (.val (.str (a ++ b)) .no) .fail
  | .eql => .val (.bool (decide (a = b))) .no
  | .neq => .val (.bool (!decide (a = b))) .no
  | .lss => .val (.bool (Op.bytesLess a.toList b.toList)) .no
  | .leq => .val (.bool (Op.bytesLess a.toList b.toList || decide (a = b))) .no
  | .gtr => .val (.bool (!(Op.bytesLess a.toList b.toList || decide (a = b)))) .no
  | .geq => .val (.bool (!Op.bytesLess a.toList b.toList)) .no
  | _ => .fail

def eqBool (op : BinOp) (b : Bool) : OT :=
  match op with
  | .eql => .val (.bool b) .no
  | .neq => .val (.bool !b) .no
  | _ => .fail

def isBoolT : Option TI → Bool
  | some ⟨.bool, _⟩ => true
  | _ => false

def binE (τ : Ty) (op : BinOp) (t : TypeId) (x y : AV) : OT :=
  match x, y with
  | .int k a, .int k' b =>
    match op with
    | .shl => shE .shl k a b
    | .shr => shE .shr k a b
    | op => bif decide (k = k') then intE op k a b else .fail
  | .str a, .str b => strE op a b
  | .bool a, .bool b => bif isBoolT (τ t) then eqBool op (a == b) else .fail
  | _, _ => .fail

theorem toList_beq (a b : ByteArray) : (a.toList == b.toList) = decide (a = b) := by
  rw [Bool.eq_iff_iff]
  simp only [beq_iff_eq, decide_eq_true_eq]
  constructor
  · intro h
    have : a.data.toList = b.data.toList := by
      have e : ∀ x : ByteArray, x.toList = x.data.toList := fun x => by
        exact ByteArray.toList_eq x
      rwa [e, e] at h
    cases a; cases b; simp at this; simp [this]
  · rintro rfl; rfl

section
variable {P : Program} {g : G} {L : Obs} {w : World}

/-- What an operation is to show: the machine's run gives a related value, in a world that stands as it should. -/
def Shows (P : Program) (g : G) (L : Obs) (w : World) (s : Sem Value) (v : AV) (e : Eff) : Prop :=
  ∃ u w' g', s.run P w = .ok u w' ∧ R g' (szf (e.app L)) w' v u ∧ Stp g L w g' (e.app L) w'

theorem Shows.pure (hO : OR g L w) {s : Sem Value} {v : AV} (u : Value) (h : s.run P w = .ok u w) (hR : R g (szf L) w v u) : Shows P g L w s v .no :=
  ⟨u, w, g, h, hR, Stp.refl hO⟩

theorem intE_ok (hO : OR g L w) {op : BinOp} {k : IntKind} {a b : Int} {t : TypeId} {v : AV} {e : Eff} (hsh : op ≠ .shl ∧ op ≠ .shr) (h : OT.Leaf v e (intE op k a b)) :
    Shows P g L w (binOp op t (.int k a) (.int k b)) v e := by
  have one : ∀ {u : Value} {x : AV}, x = v ∧ Eff.no = e → (binOp op t (.int k a) (.int k b)).run P w = .ok u w → R g (szf L) w x u → Shows P g L w (binOp op t (.int k a) (.int k b)) v e := by
    rintro u x ⟨rfl, rfl⟩ h1 h2; exact Shows.pure hO u h1 h2
  cases op with
  | quo | rem =>
    rcases h with ⟨_, h⟩ | ⟨hb, h⟩
    · exact h.elim
    · have hb' : b ≠ 0 := of_decide_eq_false hb
      exact one h (by simp [binOp, Op.intDiv, wrapK_eq, hb']) (R.int _ _)
  | shl => exact absurd rfl hsh.1
  | shr => exact absurd rfl hsh.2
  | add | sub | mul => exact one h (by simp [binOp, Op.intArith, wrapK_eq]) (R.int _ _)
  | eql | neq | lss | leq | gtr | geq => exact one h (by simp only [binOp, ne_eq, not_true_eq_false, if_false, Op.intCmp]; rfl) (R.bool _)
  | and | or | xor => exact one h (by simp [binOp, Op.intBits]) (R.int _ _)
  | andNot => exact h.elim

theorem shE_ok (hO : OR g L w) {op : BinOp} {k k' : IntKind} {a b : Int} {t : TypeId} {v : AV} {e : Eff} (h : OT.Leaf v e (shE op k a b)) :
    Shows P g L w (binOp op t (.int k a) (.int k' b)) v e := by
  cases op <;> simp only [shE, Leaf.fail, Leaf.br, Leaf.val, false_and, and_false, or_false, false_or] at h <;> try exact h.elim
  all_goals
    obtain ⟨hb, rfl, rfl⟩ := h
    refine Shows.pure hO _ ?_ (R.int _ _)
    have hb' : ¬ b < 0 := of_decide_eq_false hb
    simp [binOp, Op.shift, wrapK_eq, hb']

theorem strE_ok (hO : OR g L w) {op : BinOp} {a b : ByteArray} {t : TypeId} {v : AV} {e : Eff} (h : OT.Leaf v e (strE op a b)) :
    Shows P g L w (binOp op t (.string a) (.string b)) v e := by
  cases op <;> simp only [strE, Leaf.fail, Leaf.br, Leaf.val, false_and, and_false, or_false, false_or] at h <;> try exact h.elim
  all_goals first
    | (obtain ⟨rfl, rfl⟩ := h; refine Shows.pure hO _ ?_ (R.bool _); simp [binOp, Op.stringOp, toList_beq]; done)
    | (obtain ⟨hb, rfl, rfl⟩ := h; refine Shows.pure hO _ ?_ (R.str _); have hb' := of_decide_eq_true hb; have hn : ¬ (((a.size + b.size : Nat) : Int) > IntKind.i64.max) := by (simp [IntKind.max, IntKind.bits, IntKind.signed]; omega)
       simp only [binOp, Op.stringOp]; rw [if_neg hn]; rfl)

theorem binE_ok (hO : OR g L w) {τ : Ty} (hτ : TyOK P τ) {op : BinOp} {t : TypeId} {x y : AV} {v : AV} {e : Eff} {a b : Value} (hx : R g (szf L) w x a) (hy : R g (szf L) w y b)
    (h : OT.Leaf v e (binE τ op t x y)) : Shows P g L w (binOp op t a b) v e := by
  unfold binE at h
  split at h
  · rename_i k m k' m'
    obtain rfl := hx.int_inv; obtain rfl := hy.int_inv
    split at h
    · exact shE_ok hO h
    · exact shE_ok hO h
    · rename_i h1 h2
      cases hk : decide (k = k') with
      | false => rw [hk] at h; exact h.elim
      | true =>
        rw [hk] at h
        obtain rfl := of_decide_eq_true hk
        exact intE_ok hO ⟨h1, h2⟩ h
  · obtain rfl := hx.str_inv; obtain rfl := hy.str_inv
    exact strE_ok hO h
  · obtain rfl := hx.bool_inv; obtain rfl := hy.bool_inv
    cases hb : isBoolT (τ t) with
    | false => rw [hb] at h; exact h.elim
    | true =>
      rw [hb] at h
      have hu : P.underlying t = some .bool := by
        unfold isBoolT at hb
        split at hb
        · rename_i z hz; exact (hτ t _ hz).u
        · cases hb
      cases op <;> simp only [cond_true, eqBool, Leaf.fail, Leaf.val] at h <;> try exact h.elim
      all_goals
        obtain ⟨rfl, rfl⟩ := h
        refine Shows.pure hO _ ?_ (R.bool _)
        simp only [binOp, Sem.run_bind, run_equal_bool _ _ _ _ hu, Result.andThen_ok, Sem.run_pure]
  · exact h.elim
end
end Go.EV
namespace Go.EV
open Go Go.RowKit
set_option linter.unusedSimpArgs false

/-! ### constants, boxes, parts -/
def ofV1 : Value → AV
  | .int k n => .int k n
  | .bool b => .bool b
  | .string s => .str s
  | v => .v v
def ofV : Value → AV
  | .agg cs => .agg (cs.toList.map ofV1)
  | v => ofV1 v

def cellsA : AV → List AV
  | .agg xs => xs
  | x => [x]
def oneA : AV → Bool
  | .agg _ | .tup _ | .bad => false
  | .v x => x.oneCell'
  | _ => true
def isF : AV → Bool
  | .int _ _ | .bool _ | .str _ | .v _ | .sl _ _ _ | .fp _ _ | .fn _ [] => true
  | _ => false
def cellsOK : AV → Bool
  | .agg xs => xs.all oneA
  | x => oneA x

section
variable {P : Program} {g : G} {sz : Nat → Nat} {w : World}

theorem R_ofV1 (v : Value) : R g sz w (ofV1 v) v := by
  cases v <;> first | exact R.int _ _ | exact R.bool _ | exact R.str _ | exact .fz _ _ (.v _)
theorem R_ofV (v : Value) : R g sz w (ofV v) v := by
  cases v with
  | agg cs =>
    refine .agg _ _ (by simp) (fun i hi => ?_)
    have hi' : i < cs.size := by simpa using hi
    rw [show (cs.toList.map ofV1).getD i .bad = ofV1 cs[i] by simp [List.getD, hi'], show cs.getD i undef = cs[i] by simp [hi']]
    exact R_ofV1 _
  | _ => unfold ofV; exact R_ofV1 _

theorem R.one {x : AV} {v : Value} (h : R g sz w x v) (hx : oneA x = true) : v.oneCell' = true := by
  cases h with
  | fz _ _ h => cases h <;> first | rfl | exact hx | (simp [oneA] at hx)
  | agg => simp [oneA] at hx
  | tup => simp [oneA] at hx
  | refs _ _ _ _ _ _ _ hx => exact hx
  | osls _ _ _ _ _ _ _ hx => exact hx
  | omaps _ _ _ hx => exact hx
  | _ => rfl

theorem R.toF {x : AV} {v : Value} (h : R g sz w x v) (hx : isF x = true) : F g.S w x v := by
  cases h with
  | fz _ _ h => exact h
  | fn f xs cs hl h =>
    cases xs with
    | nil =>
      have : cs = #[] := by cases cs; simp at hl; simp [hl]
      subst this; exact .fn0 f
    | cons => simp [isF] at hx
  | _ => simp [isF] at hx

theorem one_cells {v : Value} (h : v.oneCell' = true) : v.cells = #[v] := by cases v <;> first | rfl | (simp [Value.oneCell'] at h)

theorem R.cells {x : AV} {v : Value} (h : R g sz w x v) (hx : cellsOK x = true) : v.cells.size = (cellsA x).length ∧ (∀ i, i < (cellsA x).length → R g sz w ((cellsA x).getD i .bad) (v.cells.getD i undef)) ∧
    ∀ u ∈ v.cells.toList, u.oneCell' = true := by
  have hone : oneA x = true → v.cells.size = 1 ∧ (∀ i, i < 1 → R g sz w ([x].getD i .bad) (v.cells.getD i undef)) ∧ ∀ u ∈ v.cells.toList, u.oneCell' = true := by
    intro h1
    have h2 := h.one h1
    rw [one_cells h2]
    refine ⟨rfl, fun i hi => ?_, fun u hu => ?_⟩
    · obtain rfl : i = 0 := by omega
      exact h
    · have : u = v := by simpa using hu
      rw [this]; exact h2
  cases x with
  | agg xs =>
    obtain ⟨cs, rfl, hl, hr⟩ := h.agg_inv
    refine ⟨hl, hr, fun u hu => ?_⟩
    obtain ⟨i, hi, rfl⟩ := List.mem_iff_getElem.1 hu
    have hi' : i < xs.length := by
      have : i < cs.size := by simpa [Value.cells] using hi
      rw [← hl]; exact this
    have h3 := hr i hi'
    have h4 : oneA (xs.getD i .bad) = true := by
      have := List.all_eq_true.1 hx (xs[i]) (List.getElem_mem hi')
      simpa [List.getD, hi'] using this
    have h5 := h3.one h4
    have hi2 : i < cs.size := by rw [hl]; exact hi'
    have e : cs.getD i undef = cs[i] := by simp [hi2]
    rw [e] at h5
    simpa [Value.cells] using h5
  | _ => exact hone hx
end

/-! ### loads -/
def TI.nn (i : TI) : Nat := bif isAggD i.desc then i.info.size else 1
def ldE (i : TI) (get : Nat → AV) : OT := bif isAggD i.desc then .val (.agg ((List.range i.info.size).map get)) .no else .val (get 0) .no

section
variable {P : Program} {g : G} {L : Obs} {w : World}

theorem run_isAgg {t : TypeId} {i : TI} (h : TyAt P t i) : (isAgg t).run P w = .ok (isAggD i.desc) w := by
  unfold isAgg
  rw [Sem.run_bind, run_underlying h.u, Result.andThen_ok]
  cases i.desc <;> rfl
theorem run_size {t : TypeId} {i : TI} (h : TyAt P t i) : (sizeOf t).run P w = .ok i.info.size w := by
  simp [sizeOf, typeInfo, h.i]

theorem Addr.add_at (b o j : Nat) : (⟨b, o, none⟩ : Addr).add j = ⟨b, o + j, none⟩ := by unfold Addr.add; split <;> simp_all

/-- What is shown of an operation that only reads. -/
def ShowsP (P : Program) (g : G) (L : Obs) (w : World) (s : Sem Value) (v : AV) (e : Eff) : Prop := e = .no ∧ ∃ u, s.run P w = .ok u w ∧ R g (szf L) w v u
theorem ShowsP.s {s : Sem Value} {v : AV} {e : Eff} (h : ShowsP P g L w s v e) (hO : OR g L w) : Shows P g L w s v e := by
  obtain ⟨rfl, u, h1, h2⟩ := h; exact Shows.pure hO u h1 h2
theorem ShowsP.mk {s : Sem Value} {v : AV} (u : Value) (h : s.run P w = .ok u w) (hR : R g (szf L) w v u) : ShowsP P g L w s v .no := ⟨rfl, u, h, hR⟩

theorem ld_ok (hO : OR g L w) {t : TypeId} {i : TI} (ht : TyAt P t i) {b o : Nat} {get : Nat → AV} (c : Nat → Value)
    (hc : ∀ j, j < i.nn → w.cell? ⟨b, o + j, none⟩ = some (c j)) (hR : ∀ j, j < i.nn → R g (szf L) w (get j) (c j)) {v : AV} {e : Eff} (h : OT.Leaf v e (ldE i get)) :
    ShowsP P g L w (Instr.loadAt t (.pointer (some ⟨b, o, none⟩))) v e := by
  unfold ldE at h
  unfold TI.nn at hc hR
  cases hA : isAggD i.desc with
  | true =>
    rw [hA] at h hc hR
    obtain ⟨rfl, rfl⟩ := h
    refine ShowsP.mk (.agg ((List.range i.info.size).map c).toArray) ?_ (.agg _ _ (by simp) fun j hj => ?_)
    · simp only [Instr.loadAt, Instr.sureAddr, loadVar, Sem.run_bind, Sem.run_pure, Result.andThen_ok, run_isAgg ht, hA, if_true, run_size ht]
      rw [run_loadCells w _ _ c (fun j hj => by rw [Addr.add_at]; exact hc j hj)]
      rfl
    · have hj : j < i.info.size := by simpa using hj
      simpa [List.getD, hj] using hR j hj
  | false =>
    rw [hA] at h hc hR
    obtain ⟨rfl, rfl⟩ := h
    have h0 := hc 0 (by simp)
    simp only [Nat.add_zero] at h0
    refine ShowsP.mk (c 0) ?_ (hR 0 (by simp))
    simp [Instr.loadAt, Instr.sureAddr, loadVar, run_isAgg ht, hA, h0]

def loadE (τ : Ty) (L : Obs) (t : TypeId) (x : AV) : OT :=
  match τ t with
  | none => .fail
  | some i =>
    match x with
    | .ref s w' k off ep =>
      match L s with
      | some (.box xs) => bif Nat.beq ep xs.length && (Nat.beq k 0 && Nat.ble (off + i.nn) xs.length) then ldE i (fun j => xs.getD (off + j) .bad) else .fail
      | some (.buf n w1 f) => bif Nat.beq w' w1 && Nat.ble (off + i.nn) w1 then .req (ep = n ∧ k < n) (ldE i fun j => f k (off + j)) else .fail
      | _ => .fail
    | .fp w' f => bif Nat.ble i.nn w' then ldE i f else .fail
    | _ => .fail

theorem cell_of {w : World} {b : Nat} {cs : Array Value} {T : TypeId} (h : w.heap[b]? = some (.cells cs T (0, 0))) {o : Nat} (ho : o < cs.size) :
    w.cell? ⟨b, o, none⟩ = some (cs.getD o undef) := by
  simp [World.cell?, h, ho]

theorem ref_inv {sz : Nat → Nat} {s w' k off ep : Nat} {v : Value} (h : R g sz w (.ref s w' k off ep) v) (he : ep = sz s) : ∃ b κ, g.β s = some (b, κ) ∧ v = .pointer (some ⟨b, k * w' + off, none⟩) := by
  cases h with
  | fz _ _ h => cases h
  | refs _ _ _ _ _ _ h => omega
  | ref _ _ _ _ _ b κ _ h => exact ⟨b, κ, h, rfl⟩

theorem loadE_ok (hO : OR g L w) {τ : Ty} (hτ : TyOK P τ) {t : TypeId} {x : AV} {a : Value} (hx : R g (szf L) w x a) {v : AV} {e : Eff} (h : OT.Leaf v e (loadE τ L t x)) :
    ShowsP P g L w (Instr.loadAt t a) v e := by
  unfold loadE at h
  split at h
  · exact h.elim
  rename_i i hi
  have ht := hτ t i hi
  split at h
  · rename_i s w' k off ep
    split at h
    · rename_i xs hs
      cases hb : (Nat.beq ep xs.length && (Nat.beq k 0 && Nat.ble (off + i.nn) xs.length)) with
      | false => rw [hb] at h; exact h.elim
      | true =>
        rw [hb] at h
        simp only [Bool.and_eq_true, Nat.beq_eq, Nat.ble_eq] at hb
        obtain ⟨h1, rfl, h3⟩ := hb
        obtain ⟨b, κ, cs, T, hβ, hh, hl, hr⟩ := hO.ob s _ hs
        obtain ⟨b', κ', hβ', rfl⟩ := ref_inv hx (by simp [szf, hs, szOf, h1])
        rw [hβ] at hβ'; cases hβ'
        refine ld_ok hO ht (fun j => cs.getD (off + j) undef) (fun j hj => ?_) (fun j hj => hr _ (by omega)) h
        have := cell_of hh (o := off + j) (by omega)
        simpa using this
    · rename_i n w1 f hs
      cases hb : (Nat.beq w' w1 && Nat.ble (off + i.nn) w1) with
      | false => rw [hb] at h; exact h.elim
      | true =>
        rw [hb] at h
        simp only [Bool.and_eq_true, Nat.beq_eq, Nat.ble_eq] at hb
        obtain ⟨rfl, h3⟩ := hb
        obtain ⟨⟨h1, h2⟩, h⟩ := h
        rcases hO.ob s _ hs with h0 | ⟨b, κ, cs, T, hβ, hh, hn, hl, hr⟩
        · omega
        obtain ⟨b', κ', hβ', rfl⟩ := ref_inv hx (by simp [szf, hs, szOf, h1])
        rw [hβ] at hβ'; cases hβ'
        refine ld_ok hO ht (fun j => cs.getD (k * w' + (off + j)) undef) (fun j hj => ?_) (fun j hj => .fz _ _ (hr k _ h2 (by omega)).1) h
        have hlt : k * w' + (off + j) < cs.size := by
          have : (k + 1) * w' ≤ κ * w' := Nat.mul_le_mul_right _ (by omega)
          rw [Nat.add_mul] at this; omega
        have := cell_of hh hlt
        simpa [Nat.add_assoc] using this
    · exact h.elim
  · rename_i w' f
    cases hb : Nat.ble i.nn w' with
    | false => rw [hb] at h; exact h.elim
    | true =>
      rw [hb] at h
      have hb := Nat.ble_eq.mp hb
      obtain ⟨b, o, c, rfl, hS, hc, hf, _⟩ := hx.fp_inv.fp_inv
      exact ld_ok hO ht c (fun j hj => hc j (by omega)) (fun j hj => .fz _ _ (hf j (by omega))) h
  · exact h.elim
end
end Go.EV
namespace Go.EV
open Go Go.RowKit
set_option linter.unusedSimpArgs false

def putL (xs : List AV) (off : Nat) (ys : List AV) : List AV := xs.take off ++ ys ++ xs.drop (off + ys.length)
def putF (f : Nat → Nat → AV) (k off : Nat) (ys : List AV) : Nat → Nat → AV := fun i j =>
  bif Nat.beq i k && (Nat.ble off j && Nat.blt j (off + ys.length)) then ys.getD (j - off) .bad else f i j

theorem putL_len (xs : List AV) (off : Nat) (ys : List AV) (h : off + ys.length ≤ xs.length) : (putL xs off ys).length = xs.length := by
  simp [putL]; omega

theorem getD_seg {α : Type} (d : α) (xs : List α) (off : Nat) (ys : List α) (h : off + ys.length ≤ xs.length) (i : Nat) :
    (xs.take off ++ ys ++ xs.drop (off + ys.length)).getD i d = if off ≤ i ∧ i < off + ys.length then ys.getD (i - off) d else xs.getD i d := by
  have ht : (xs.take off).length = off := by simp; omega
  simp only [List.getD, List.append_assoc]
  by_cases h1 : i < off
  · rw [List.getElem?_append_left (by omega), List.getElem?_take, if_pos h1, if_neg (by omega)]
  · rw [List.getElem?_append_right (by omega), ht]
    by_cases h2 : i - off < ys.length
    · rw [List.getElem?_append_left h2, if_pos (by omega)]
    · rw [List.getElem?_append_right (by omega), List.getElem?_drop, if_neg (by omega)]
      congr 2; omega

def storeE (τ : Ty) (L : Obs) (t : TypeId) (x y : AV) : OT :=
  match τ t with
  | none => .fail
  | some i =>
    bif cellsOK y && Nat.beq (cellsA y).length i.info.size then
      match x with
      | .ref s w' k off ep =>
        match L s with
        | some (.box xs) => bif Nat.beq ep xs.length && (Nat.beq k 0 && Nat.ble (off + (cellsA y).length) xs.length) then .val .bad (.upd s (.box (putL xs off (cellsA y)))) else .fail
        | some (.buf n w1 f) => bif Nat.beq w' w1 && (Nat.ble (off + (cellsA y).length) w1 && (cellsA y).all isF) then
            .req (ep = n ∧ k < n) (.val .bad (.upd s (.buf n w1 (putF f k off (cellsA y))))) else .fail
        | some (.bx T h m n) => bif Nat.beq ep 2 && Nat.beq k 0 then
            match y with
            | .v (.pointer none) => bif Nat.beq off 0 then .val .bad (.upd s (.bx T h m n)) else .fail
            | .v (.slice none 0 0) => bif Nat.beq off 1 then .val .bad (.upd s (.bx T h m 0)) else .fail
            | _ => .fail
          else .fail
        | _ => .fail
      | _ => .fail
    else .fail

section
variable {P : Program} {g : G} {L : Obs} {w : World}

/-- What an operation without a value is to show. -/
def ShowsU (P : Program) (g : G) (L : Obs) (w : World) (s : Sem Unit) (v : AV) (e : Eff) : Prop :=
  ∃ w' g', s.run P w = .ok () w' ∧ v = .bad ∧ Stp g L w g' (e.app L) w'

theorem arr_toList_getD (cs : Array Value) (i : Nat) : cs.toList.getD i undef = cs.getD i undef := by simp [List.getD]

theorem storeE_ok (hO : OR g L w) {τ : Ty} (hτ : TyOK P τ) {t : TypeId} {x y : AV} {a u : Value} (hx : R g (szf L) w x a) (hy : R g (szf L) w y u) {v : AV} {e : Eff}
    (h : OT.Leaf v e (storeE τ L t x y)) : ShowsU P g L w (Instr.storeAt t a u) v e := by
  unfold storeE at h
  split at h
  · exact h.elim
  rename_i i hi
  have ht := hτ t i hi
  cases hc : (cellsOK y && Nat.beq (cellsA y).length i.info.size) with
  | false => rw [hc] at h; exact h.elim
  | true =>
  rw [hc] at h
  simp only [Bool.and_eq_true, Nat.beq_eq] at hc
  obtain ⟨hc1, hc2⟩ := hc
  obtain ⟨hu1, hu2, hu3⟩ := hy.cells hc1
  simp only [cond_true] at h
  have hrun : ∀ (b o : Nat) (cs : Array Value) (T : TypeId), w.heap[b]? = some (.cells cs T (0, 0)) → o + (cellsA y).length ≤ cs.size →
      (Instr.storeAt t (.pointer (some ⟨b, o, none⟩)) u).run P w = .ok () (w.setRow b (cs.toList.take o ++ u.cells.toList ++ cs.toList.drop (o + u.cells.toList.length)).toArray) := by
    intro b o cs T hh hle
    have hst := run_storeCells_at P b o T u.cells.toList 0 cs w hh (by simp [hu1]; omega) hu3
    simp only [Nat.add_zero] at hst
    simp only [Instr.storeAt, Instr.sureAddr, storeVar, Sem.run_bind, Sem.run_pure, Result.andThen_ok, run_size ht, hu1, hc2, ne_eq, not_true_eq_false, if_false, hst]
  split at h
  · rename_i s w' k off ep
    split at h
    · rename_i xs hs
      cases hb : (Nat.beq ep xs.length && (Nat.beq k 0 && Nat.ble (off + (cellsA y).length) xs.length)) with
      | false => rw [hb] at h; exact h.elim
      | true =>
        rw [hb] at h
        simp only [Bool.and_eq_true, Nat.beq_eq, Nat.ble_eq] at hb
        obtain ⟨h1, rfl, h3⟩ := hb
        obtain ⟨rfl, rfl⟩ := h
        obtain ⟨b, κ, cs, T, hβ, hh, hl, hr⟩ := hO.ob s _ hs
        obtain ⟨b', κ', hβ', rfl⟩ := ref_inv hx (by simp [szf, hs, szOf, h1])
        rw [hβ] at hβ'; cases hβ'
        simp only [Nat.zero_mul, Nat.zero_add]
        refine ⟨_, g, hrun b off cs T hh (by omega), rfl, Stp.write hO hβ _ _ (by simp [szf, hs, szOf, putL_len _ _ _ h3]) fun hm => ?_⟩
        refine ⟨b, κ, _, T, hβ, setRow_heap w b cs _ T _ hh, ?_, fun j hj => ?_⟩
        · rw [putL_len _ _ _ h3]; simp [hu1]; omega
        · rw [putL_len _ _ _ h3] at hj
          have e1 := getD_seg AV.bad xs off (cellsA y) h3 j
          have e2 := getD_seg undef cs.toList off u.cells.toList (by simp [hu1]; omega) j
          rw [putL, e1]
          have e3 : ((cs.toList.take off ++ u.cells.toList ++ cs.toList.drop (off + u.cells.toList.length)).toArray).getD j undef =
              if off ≤ j ∧ j < off + (cellsA y).length then u.cells.getD (j - off) undef else cs.getD j undef := by
            rw [← arr_toList_getD, List.toList_toArray, e2]
            simp [hu1, arr_toList_getD]
          rw [e3]
          by_cases hj2 : off ≤ j ∧ j < off + (cellsA y).length
          · rw [if_pos hj2, if_pos hj2]; exact (hu2 _ (by omega)).mono hm
          · rw [if_neg hj2, if_neg hj2]; exact (hr j hj).mono hm
    · rename_i n w1 f hs
      cases hb : (Nat.beq w' w1 && (Nat.ble (off + (cellsA y).length) w1 && (cellsA y).all isF)) with
      | false => rw [hb] at h; exact h.elim
      | true =>
        rw [hb] at h
        simp only [Bool.and_eq_true, Nat.beq_eq, Nat.ble_eq] at hb
        obtain ⟨rfl, h3, hF⟩ := hb
        obtain ⟨⟨h1, h2⟩, rfl, rfl⟩ := h
        rcases hO.ob s _ hs with h0 | ⟨b, κ, cs, T, hβ, hh, hn, hl, hr⟩
        · omega
        obtain ⟨b', κ', hβ', rfl⟩ := ref_inv hx (by simp [szf, hs, szOf, h1])
        rw [hβ] at hβ'; cases hβ'
        have hlt : k * w' + off + (cellsA y).length ≤ cs.size := by
          have : (k + 1) * w' ≤ κ * w' := Nat.mul_le_mul_right _ (by omega)
          rw [Nat.add_mul] at this; omega
        refine ⟨_, g, hrun b _ cs T hh hlt, rfl, Stp.write hO hβ _ _ (by simp [szf, hs, szOf]) fun hm => ?_⟩
        refine .inr ⟨b, κ, _, T, hβ, setRow_heap w b cs _ T _ hh, hn, ?_, fun i' j hi' hj => ?_⟩
        · simp [hu1]; omega
        · have e2 := getD_seg undef cs.toList (k * w' + off) u.cells.toList (by simp [hu1]; omega) (i' * w' + j)
          have e3 : ((cs.toList.take (k * w' + off) ++ u.cells.toList ++ cs.toList.drop (k * w' + off + u.cells.toList.length)).toArray).getD (i' * w' + j) undef =
              if k * w' + off ≤ i' * w' + j ∧ i' * w' + j < k * w' + off + (cellsA y).length then u.cells.getD (i' * w' + j - (k * w' + off)) undef else cs.getD (i' * w' + j) undef := by
            rw [← arr_toList_getD, List.toList_toArray, e2]
            simp [hu1, arr_toList_getD]
          rw [e3]
          unfold putF
          by_cases hk : i' = k
          · subst hk
            by_cases hj2 : off ≤ j ∧ j < off + (cellsA y).length
            · rw [if_pos (by omega)]
              have hb2 : (Nat.beq i' i' && (Nat.ble off j && Nat.blt j (off + (cellsA y).length))) = true := by
                simp only [Bool.and_eq_true, Nat.beq_eq, Nat.ble_eq, Nat.blt_eq]; exact ⟨trivial, hj2⟩
              rw [hb2]
              have e4 : i' * w' + j - (i' * w' + off) = j - off := by omega
              rw [e4]
              have hF' : isF ((cellsA y).getD (j - off) .bad) = true := by
                have hlt : j - off < (cellsA y).length := by omega
                have := List.all_eq_true.1 hF _ (List.getElem_mem hlt)
                simpa [List.getD, hlt] using this
              refine ⟨((hu2 _ (by omega)).toF hF').mono hm.S hm.cell, ?_⟩
              have hlt : j - off < u.cells.size := by omega
              have := hu3 u.cells[j - off] (by simp)
              simpa [hlt] using this
            · rw [if_neg (by omega)]
              have hb2 : (Nat.beq i' i' && (Nat.ble off j && Nat.blt j (off + (cellsA y).length))) = false := by
                rw [Bool.eq_false_iff]; intro h; simp only [Bool.and_eq_true, Nat.beq_eq, Nat.ble_eq, Nat.blt_eq] at h; exact hj2 h.2
              rw [hb2]
              exact ⟨(hr i' j hi' hj).1.mono hm.S hm.cell, (hr i' j hi' hj).2⟩
          · have hne : ¬ (k * w' + off ≤ i' * w' + j ∧ i' * w' + j < k * w' + off + (cellsA y).length) := by
              rintro ⟨ha, hb⟩
              rcases Nat.lt_or_gt_of_ne hk with h' | h'
              · have : (i' + 1) * w' ≤ k * w' := Nat.mul_le_mul_right _ (by omega)
                rw [Nat.add_mul] at this; omega
              · have : (k + 1) * w' ≤ i' * w' := Nat.mul_le_mul_right _ (by omega)
                rw [Nat.add_mul] at this; omega
            rw [if_neg hne]
            have hb2 : (Nat.beq i' k && (Nat.ble off j && Nat.blt j (off + (cellsA y).length))) = false := by
              rw [beq_ne hk]; rfl
            rw [hb2]
            exact ⟨(hr i' j hi' hj).1.mono hm.S hm.cell, (hr i' j hi' hj).2⟩
    · rename_i T h' m n hs
      cases hb : (Nat.beq ep 2 && Nat.beq k 0) with
      | false => rw [hb] at h; exact h.elim
      | true =>
        rw [hb] at h
        simp only [Bool.and_eq_true, Nat.beq_eq] at hb
        obtain ⟨h1, rfl⟩ := hb
        obtain ⟨b, κ, p, v0, hβ, hh, hp, hv⟩ := hO.ob s _ hs
        obtain ⟨b', κ', hβ', rfl⟩ := ref_inv hx (by simp [szf, hs, szOf, h1])
        rw [hβ] at hβ'; cases hβ'
        simp only [cond_true] at h
        split at h
        · cases ho : Nat.beq off 0 with
          | false => rw [ho] at h; exact h.elim
          | true =>
            rw [ho] at h
            obtain ⟨rfl, rfl⟩ := h
            obtain rfl := Nat.eq_of_beq_eq_true ho
            obtain rfl := hy.v_inv
            simp only [Nat.zero_mul, Nat.zero_add]
            refine ⟨_, g, hrun b 0 _ T hh (by simp [cellsA]), rfl, Stp.write hO hβ _ _ (by simp [szf, hs, szOf]) fun hm => ?_⟩
            exact ⟨b, κ, _, _, hβ, setRow_heap w b _ _ T _ hh, .inl rfl, hv.mono hm⟩
        · cases ho : Nat.beq off 1 with
          | false => rw [ho] at h; exact h.elim
          | true =>
            rw [ho] at h
            obtain ⟨rfl, rfl⟩ := h
            obtain rfl := Nat.eq_of_beq_eq_true ho
            obtain rfl := hy.v_inv
            simp only [Nat.zero_mul, Nat.zero_add]
            refine ⟨_, g, hrun b 1 _ T hh (by simp [cellsA]), rfl, Stp.write hO hβ _ _ (by simp [szf, hs, szOf]) fun hm => ?_⟩
            have hv2 : BV g.β (szf L) h' m 0 (.slice none 0 0) := ⟨rfl, hv.2.elim .inl fun x => .inr ⟨x.1, .inl ⟨rfl, rfl⟩⟩⟩
            exact ⟨b, κ, p, _, hβ, setRow_heap w b _ _ T _ hh, hp, hv2.mono hm⟩
        · exact h.elim
    · exact h.elim
  · exact h.elim

/-! ### new variables -/
def newBox (L : Obs) (d : Nat) (xs : List AV) : OT :=
  match L d with
  | none => .val (.ref d 0 0 0 xs.length) (.new d (.box xs))
  | some _ => .fail
/-- A builder that has not been written: two cells. -/
def isBd : Value → Bool
  | .agg ⟨[.pointer none, .slice none 0 0]⟩ => true
  | _ => false
theorem isBd_spec {z : Value} (h : isBd z = true) : z = .agg #[.pointer none, .slice none 0 0] := by
  unfold isBd at h
  split at h
  · rfl
  · cases h
def newBd (L : Obs) (d t : Nat) : OT :=
  match L d, L (1000000 + d) with
  | none, none => .val (.ref d 0 0 0 2) (.new d (.bx t (1000000 + d) 0 0))
  | _, _ => .fail
def allocE (τ : Ty) (L : Obs) (d : Option Nat) (t : TypeId) : OT :=
  match d, τ t with
  | some d, some i => match i.info.zero with
    | some z => bif isBd z then newBd L d t else newBox L d (cellsA (ofV z))
    | none => .fail
  | _, _ => .fail
def boxE (L : Obs) (d : Option Nat) (x : AV) : OT :=
  match d with
  | some d => bif cellsOK x then newBox L d (cellsA x) else .fail
  | none => .fail

theorem newBox_ok (hO : OR g L w) {d : Nat} {xs : List AV} {v : AV} {e : Eff} (h : OT.Leaf v e (newBox L d xs)) (cs : Array Value) (T : TypeId) (hl : cs.size = xs.length)
    (hr : ∀ i, i < xs.length → R g (szf L) w (xs.getD i .bad) (cs.getD i undef)) {s : Sem Value}
    (hs : s.run P w = .ok (.pointer (some ⟨w.heap.size, 0, none⟩)) (w.alloc (.cells cs T))) : Shows P g L w s v e := by
  unfold newBox at h
  split at h
  · rename_i hd
    obtain ⟨rfl, rfl⟩ := h
    refine ⟨_, _, _, hs, ?_, Stp.box hO hd xs cs T hl hr⟩
    have : (⟨w.heap.size, 0, none⟩ : Addr) = ⟨w.heap.size, 0 * 0 + 0, none⟩ := by simp
    rw [this]
    exact .ref _ _ _ _ _ _ xs.length (by simp [szf, app_new, upd1_self, szOf]) (upd1_self _ _ _)
  · exact h.elim

theorem newBd_ok (hO : OR g L w) {d t : Nat} {v : AV} {e : Eff} (h : OT.Leaf v e (newBd L d t)) {s : Sem Value}
    (hs : s.run P w = .ok (.pointer (some ⟨w.heap.size, 0, none⟩)) (w.alloc (.cells #[.pointer none, .slice none 0 0] t))) : Shows P g L w s v e := by
  unfold newBd at h
  split at h
  · rename_i hd hh
    obtain ⟨rfl, rfl⟩ := h
    refine ⟨_, _, _, hs, ?_, Stp.new hO hd _ _ 2 fun g' sz' hm hβ => ?_⟩
    · have : (⟨w.heap.size, 0, none⟩ : Addr) = ⟨w.heap.size, 0 * 0 + 0, none⟩ := by simp
      rw [this]
      exact .ref _ _ _ _ _ _ 2 (by simp [szf, app_new, upd1_self, szOf]) (upd1_self _ _ _)
    · have h0 : szf L (1000000 + d) = 0 := by simp [szf, hh, szOf]
      exact ⟨_, _, _, _, hβ, push_new w _, .inl rfl, BV.mono hm ⟨rfl, .inr ⟨h0.symm, .inl ⟨rfl, rfl⟩⟩⟩⟩
  · exact h.elim

theorem ofV1_one (v : Value) (h : ∀ xs, v ≠ .agg xs) : cellsA (ofV1 v) = [ofV1 v] := by cases v <;> first | rfl | (exact absurd rfl (h _))
theorem ofV1_not_agg (v : Value) : cellsA (ofV1 v) = [ofV1 v] := by cases v <;> rfl
theorem ofV_cells (z : Value) : z.cells.size = (cellsA (ofV z)).length ∧ ∀ i, i < (cellsA (ofV z)).length → R g (szf L) w ((cellsA (ofV z)).getD i .bad) (z.cells.getD i undef) := by
  have hz := R_ofV1 (g := g) (sz := szf L) (w := w) z
  cases z with
  | agg cs =>
    refine ⟨by simp [Value.cells, ofV, cellsA], fun i hi => ?_⟩
    obtain ⟨cs', h1, h2, h3⟩ := (R_ofV (g := g) (sz := szf L) (w := w) (.agg cs)).agg_inv
    cases h1
    exact h3 i hi
  | _ =>
    unfold ofV
    rw [ofV1_not_agg]
    refine ⟨rfl, fun i hi => ?_⟩
    obtain rfl : i = 0 := by simp at hi; omega
    exact hz

theorem allocE_ok (hO : OR g L w) {τ : Ty} (hτ : TyOK P τ) {d : Option Nat} {t : TypeId} {v : AV} {e : Eff} (h : OT.Leaf v e (allocE τ L d t)) :
    Shows P g L w (Instr.alloc t true (.tuple #[])) v e := by
  unfold allocE at h
  split at h
  · rename_i d i hi
    have ht := hτ t i hi
    split at h
    · rename_i z hz
      cases hb : isBd z with
      | true =>
        rw [hb] at h
        have hz2 := isBd_spec hb
        refine newBd_ok hO h ?_
        simp [Instr.alloc, zeroValue, typeInfo, ht.i, hz, newVar, newRow, hz2, Value.cells]
      | false =>
      rw [hb] at h
      obtain ⟨h1, h2⟩ := ofV_cells (g := g) (L := L) (w := w) z
      refine newBox_ok hO h z.cells t h1 h2 ?_
      simp [Instr.alloc, zeroValue, typeInfo, ht.i, hz, newVar, newRow]
    · exact h.elim
  · exact h.elim

theorem boxE_ok (hO : OR g L w) {d : Option Nat} {t : TypeId} {x : AV} {a : Value} (hx : R g (szf L) w x a) {v : AV} {e : Eff} (h : OT.Leaf v e (boxE L d x)) :
    Shows P g L w (Instr.box t a) v e := by
  unfold boxE at h
  split at h
  · rename_i d
    cases hc : cellsOK x with
    | false => rw [hc] at h; exact h.elim
    | true =>
      rw [hc] at h
      obtain ⟨h1, h2, _⟩ := hx.cells hc
      refine newBox_ok hO h a.cells t h1 h2 ?_
      simp [Instr.box, newVar, newRow]
  · exact h.elim
end
end Go.EV
namespace Go.EV
open Go Go.RowKit
set_option linter.unusedSimpArgs false
set_option linter.unusedVariables false

def refOK (L : Obs) (s ep : Nat) (k : OT) : OT :=
  match L s with
  | some (.box xs) => bif Nat.beq ep xs.length then k else .fail
  | some (.buf n _ _) => .req (ep = n) k
  | some (.bx _ _ _ _) => bif Nat.beq ep 2 then k else .fail
  | _ => .fail

theorem refOK_leaf {L : Obs} {s ep : Nat} {k : OT} {v : AV} {e : Eff} (h : OT.Leaf v e (refOK L s ep k)) : ep = szf L s ∧ OT.Leaf v e k := by
  unfold refOK at h
  split at h
  · rename_i xs hs
    cases hb : Nat.beq ep xs.length with
    | false => rw [hb] at h; exact h.elim
    | true => rw [hb] at h; exact ⟨by simp [szf, hs, szOf, Nat.eq_of_beq_eq_true hb], h⟩
  · rename_i n _ _ hs
    exact ⟨by simp [szf, hs, szOf, h.1], h.2⟩
  · rename_i hs
    cases hb : Nat.beq ep 2 with
    | false => rw [hb] at h; exact h.elim
    | true => rw [hb] at h; exact ⟨by simp [szf, hs, szOf, Nat.eq_of_beq_eq_true hb], h⟩
  · exact h.elim

def fieldAddrE (τ : Ty) (L : Obs) (t : TypeId) (x : AV) (f : Nat) : OT :=
  match τ t with
  | some ⟨.struct fields, _⟩ =>
    match fields[f]? with
    | some fd =>
      match τ fd.type with
      | some i => bif Nat.beq i.info.size 0 then .fail else
        match x with
        | .ref s w' k off ep => refOK L s ep (.val (.ref s w' k (off + fd.offset) ep) .no)
        | .fp w' g => bif Nat.ble fd.offset w' then .val (.fp (w' - fd.offset) fun j => g (fd.offset + j)) .no else .fail
        | _ => .fail
      | none => .fail
    | none => .fail
  | _ => .fail

def partE (i : TI) (xs : List AV) (off : Nat) : OT :=
  bif Nat.ble (off + i.nn) xs.length then
    bif isAggD i.desc then .val (.agg ((xs.drop off).take i.info.size)) .no else .val (xs.getD off .bad) .no
  else .fail

def fieldE (τ : Ty) (t : TypeId) (x : AV) (f : Nat) : OT :=
  match τ t with
  | some ⟨.struct fields, _⟩ =>
    match fields[f]? with
    | some fd =>
      match τ fd.type with
      | some i => match x with
        | .agg xs => partE i xs fd.offset
        | _ => .fail
      | none => .fail
    | none => .fail
  | _ => .fail

def addO : Nat → Nat → Nat
  | 0, n => n
  | o + 1, n => o + 1 + n
theorem addO_eq (o n : Nat) : addO o n = o + n := by cases o <;> simp [addO]

def indexAddrE (τ : Ty) (L : Obs) (t : TypeId) (x ix : AV) : OT :=
  match ix with
  | .int _ i =>
    match τ t with
    | some ⟨.slice el, _⟩ =>
      match τ el with
      | some e =>
        match x with
        | .sl n w' f => bif Nat.beq e.info.size w' then .br (decide (0 ≤ i)) (.br (decide (i < (n : Int))) (.val (.fp w' (f i.toNat)) .no) .fail) .fail else .fail
        | .osl s w' off len cap => bif Nat.beq e.info.size w' then
            match L s with
            | some (.buf n _ _) => .req (off + cap = n) (.br (decide (0 ≤ i)) (.br (decide (i < (len : Int))) (.val (.ref s w' (addO off i.toNat) 0 n) .no) .fail) .fail)
            | _ => .fail
          else .fail
        | _ => .fail
      | none => .fail
    | some ⟨.array len el, _⟩ =>
      match τ el with
      | some e =>
        match x with
        | .ref s w' k off ep => .br (decide (0 ≤ i)) (.br (decide (i < (len : Int))) (refOK L s ep (.val (.ref s w' k (off + i.toNat * e.info.size) ep) .no)) .fail) .fail
        | _ => .fail
      | none => .fail
    | _ => .fail
  | _ => .fail

def indexE (τ : Ty) (t : TypeId) (x ix : AV) : OT :=
  match ix with
  | .int _ i =>
    match τ t, x with
    | some ⟨.string, _⟩, .str s => .br (decide (0 ≤ i)) (.br (decide (i < (s.size : Int))) (.val (.int .u8 (bt s i)) .no) .fail) .fail
    | some ⟨.array len el, _⟩, .agg xs =>
      match τ el with
      | some e => .br (decide (0 ≤ i)) (.br (decide (i < (len : Int))) (partE e xs (i.toNat * e.info.size)) .fail) .fail
      | none => .fail
    | _, _ => .fail
  | _ => .fail

def extractE (x : AV) (i : Nat) : OT :=
  match x with
  | .tup xs => bif Nat.blt i xs.length then .val (xs.getD i .bad) .no else .fail
  | _ => .fail

def nilCheckE (L : Obs) (x : AV) : OT :=
  match x with
  | .ref s w' k off ep => refOK L s ep (.val x .no)
  | .fp _ _ | .fn _ _ => .val x .no
  | _ => .fail

def unE (op : UnOp) (x : AV) : OT :=
  match op, x with
  | .not, .bool b => .val (.bool !b) .no
  | .neg, .int k n => .val (.int k (wrapK k (0 - n))) .no
  | _, _ => .fail

def convE (τ : Ty) (src dst : TypeId) (x : AV) : OT :=
  match τ src, τ dst, x with
  | some _, some ⟨.int k, _⟩, .int _ n => .val (.int k (wrapK k n)) .no
  | some _, some ⟨.string, _⟩, .int _ n => .val (.str (Utf8.encode n)) .no
  | some _, some ⟨.string, _⟩, .str s => .val (.str s) .no
  | _, _, _ => .fail

section
variable {P : Program} {g : G} {L : Obs} {w : World}

theorem fieldAddrE_ok (hO : OR g L w) {τ : Ty} (hτ : TyOK P τ) {t : TypeId} {x : AV} {f : Nat} {a : Value} (hx : R g (szf L) w x a) {v : AV} {e : Eff}
    (h : OT.Leaf v e (fieldAddrE τ L t x f)) : Shows P g L w (Instr.fieldAt t a f) v e := by
  unfold fieldAddrE at h
  split at h
  · rename_i fields inf ht
    have hu := (hτ t _ ht).u
    split at h
    · rename_i fd hfd
      split at h
      · rename_i i hi
        have hti := hτ _ _ hi
        cases hb : Nat.beq i.info.size 0 with
        | true => rw [hb] at h; exact h.elim
        | false =>
          rw [hb] at h
          have hne : i.info.size ≠ 0 := fun e => by rw [e] at hb; cases hb
          have hrun : ∀ b o, (Instr.fieldAt t (.pointer (some ⟨b, o, none⟩)) f).run P w = .ok (.pointer (some ⟨b, o + fd.offset, none⟩)) w := by
            intro b o
            simp only [Instr.fieldAt, Sem.run_bind, run_underlying hu, Result.andThen_ok, hfd, Instr.sureAddr, Sem.run_pure, fieldPlace, run_size hti, if_neg hne, Addr.add_at]
          split at h
          · obtain ⟨he, rfl, rfl⟩ := refOK_leaf h
            obtain ⟨b, κ, hβ, rfl⟩ := ref_inv hx he
            refine Shows.pure hO _ (hrun _ _) ?_
            rw [Nat.add_assoc]
            exact .ref _ _ _ _ _ b κ he hβ
          · rename_i w' gf
            cases hb2 : Nat.ble fd.offset w' with
            | false => rw [hb2] at h; exact h.elim
            | true =>
              rw [hb2] at h
              have hb2 := Nat.ble_eq.mp hb2
              obtain ⟨rfl, rfl⟩ := h
              obtain ⟨b, o, c, rfl, hS, hc, hf, h1⟩ := hx.fp_inv.fp_inv
              refine Shows.pure hO _ (hrun _ _) (.fz _ _ (.fp _ _ b _ (fun j => c (fd.offset + j)) hS (fun j hj => ?_) (fun j hj => hf _ (by omega)) (fun j hj => h1 _ (by omega))))
              rw [Nat.add_assoc]; exact hc _ (by omega)
          · exact h.elim
      · exact h.elim
    · exact h.elim
  · exact h.elim

theorem partE_ok (hO : OR g L w) {t : TypeId} {i : TI} (ht : TyAt P t i) {xs : List AV} {cs : Array Value} {off : Nat} (hl : cs.size = xs.length)
    (hr : ∀ i, i < xs.length → R g (szf L) w (xs.getD i .bad) (cs.getD i undef)) {v : AV} {e : Eff} (h : OT.Leaf v e (partE i xs off)) :
    Shows P g L w (part t cs off) v e := by
  unfold partE at h
  cases hb : Nat.ble (off + i.nn) xs.length with
  | false => rw [hb] at h; exact h.elim
  | true =>
    rw [hb] at h
    have hb := Nat.ble_eq.mp hb
    unfold TI.nn at hb
    cases hA : isAggD i.desc with
    | true =>
      rw [hA] at h hb
      simp only [cond_true] at hb
      obtain ⟨rfl, rfl⟩ := h
      refine Shows.pure hO (.agg (cs.extract off (off + i.info.size))) ?_ (.agg _ _ (by simp; omega) fun j hj => ?_)
      · simp [part, run_isAgg ht, hA, run_size ht]
      · have hj : j < i.info.size := by simp at hj; omega
        have := hr (off + j) (by omega)
        have e1 : ((xs.drop off).take i.info.size).getD j .bad = xs.getD (off + j) .bad := by simp [List.getD, hj]
        have e2 : (cs.extract off (off + i.info.size)).getD j undef = cs.getD (off + j) undef := by
          have h1 : j < (cs.extract off (off + i.info.size)).size := by simp; omega
          have h2 : off + j < cs.size := by omega
          simp only [Array.getD_eq_getD_getElem?, Array.getElem?_eq_getElem h1, Array.getElem?_eq_getElem h2, Option.getD_some, Array.getElem_extract]
        rw [e1, e2]; exact this
    | false =>
      rw [hA] at h hb
      simp only [cond_false] at hb
      obtain ⟨rfl, rfl⟩ := h
      have hlt : off < cs.size := by omega
      refine Shows.pure hO (cs.getD off undef) ?_ (hr off (by omega))
      simp [part, run_isAgg ht, hA, hlt]

theorem fieldE_ok (hO : OR g L w) {τ : Ty} (hτ : TyOK P τ) {t : TypeId} {x : AV} {f : Nat} {a : Value} (hx : R g (szf L) w x a) {v : AV} {e : Eff}
    (h : OT.Leaf v e (fieldE τ t x f)) : Shows P g L w (Instr.field t a f) v e := by
  unfold fieldE at h
  split at h
  · rename_i fields inf ht
    have hu := (hτ t _ ht).u
    split at h
    · rename_i fd hfd
      split at h
      · rename_i i hi
        split at h
        · obtain ⟨cs, rfl, hl, hr⟩ := hx.agg_inv
          obtain ⟨u, w', g', hrun, hR, hst⟩ := partE_ok hO (hτ _ _ hi) hl hr h
          refine ⟨u, w', g', ?_, hR, hst⟩
          simp only [Instr.field, Sem.run_bind, run_underlying hu, Result.andThen_ok, hfd, asAgg, Sem.run_pure, hrun]
        · exact h.elim
      · exact h.elim
    · exact h.elim
  · exact h.elim

theorem osl_inv {sz : Nat → Nat} {s w' off len cap : Nat} {v : Value} (h : R g sz w (.osl s w' off len cap) v) (he : off + cap = sz s) :
    (∃ a, off = 0 ∧ len = 0 ∧ cap = 0 ∧ v = .slice a 0 0) ∨ ∃ b κ, g.β s = some (b, κ) ∧ v = .slice (some ⟨b, off * w', none⟩) len (κ - off) ∧ len ≤ cap ∧ sz s ≤ κ ∧ 0 < cap := by
  cases h with
  | fz _ _ h => cases h
  | osls _ _ _ _ _ _ h => omega
  | osl0 _ _ a h => exact .inl ⟨a, rfl, rfl, rfl, rfl⟩
  | osl _ _ _ _ _ b κ h he hl hκ hc => exact .inr ⟨b, κ, h, rfl, hl, hκ, hc⟩

theorem indexAddrE_ok (hO : OR g L w) {τ : Ty} (hτ : TyOK P τ) {t : TypeId} {x ix : AV} {a b : Value} (hx : R g (szf L) w x a) (hy : R g (szf L) w ix b) {v : AV} {e : Eff}
    (h : OT.Leaf v e (indexAddrE τ L t x ix)) : Shows P g L w (Instr.indexAt t a b) v e := by
  unfold indexAddrE at h
  split at h
  · rename_i k i
    obtain rfl := hy.int_inv
    split at h
    · rename_i el inf ht
      have hu := (hτ t _ ht).u
      split at h
      · rename_i et het
        have hte := hτ _ _ het
        split at h
        · rename_i n w' f
          cases hb : Nat.beq et.info.size w' with
          | false => rw [hb] at h; exact h.elim
          | true =>
            rw [hb] at h
            have hb := Nat.eq_of_beq_eq_true hb
            simp only [cond_true, Leaf.br, Leaf.fail, Leaf.val, and_false, or_false, decide_eq_true_eq] at h
            obtain ⟨h0, h1, rfl, rfl⟩ := h
            obtain ⟨a', cap, rfl, hin⟩ := hx.sl_inv.sl_inv
            obtain ⟨b, o, c, rfl, hS, hc, hf, hone⟩ := hin (by omega)
            have hin : i.toNat < n := by omega
            refine Shows.pure hO (.pointer (some ⟨b, o + i.toNat * w', none⟩)) ?_ (.fz _ _ (.fp _ _ b _ (c i.toNat) hS (fun j hj => hc _ j hin hj) (fun j hj => hf _ j hin hj) (fun j hj => hone _ j hin hj)))
            simp [Instr.indexAt, asIntOf, run_underlying hu, h0, h1, run_size hte, hb, Addr.add_at]
        · rename_i s w' off len cap
          cases hb : Nat.beq et.info.size w' with
          | false => rw [hb] at h; exact h.elim
          | true =>
            rw [hb] at h
            have hb := Nat.eq_of_beq_eq_true hb
            simp only [cond_true] at h
            split at h
            · rename_i n _ _ hs
              simp only [Leaf.req, Leaf.br, Leaf.fail, Leaf.val, and_false, or_false, decide_eq_true_eq] at h
              obtain ⟨he, h0, h1, rfl, rfl⟩ := h
              rw [addO_eq]
              have hsz : szf L s = n := by simp [szf, hs, szOf]
              rcases osl_inv hx (by rw [hsz]; exact he) with ⟨a', rfl, rfl, rfl, rfl⟩ | ⟨b, κ, hβ, rfl, hl, hκ, hc⟩
              · omega
              · refine Shows.pure hO (.pointer (some ⟨b, (off + i.toNat) * w' + 0, none⟩)) ?_ (.ref _ _ _ _ _ b κ hsz.symm hβ)
                simp [Instr.indexAt, asIntOf, run_underlying hu, h0, h1, run_size hte, hb, Addr.add_at, Nat.add_mul]
            · exact h.elim
        · exact h.elim
      · exact h.elim
    · rename_i len el inf ht
      have hu := (hτ t _ ht).u
      split at h
      · rename_i et het
        have hte := hτ _ _ het
        split at h
        · rename_i s w' k' off ep
          simp only [Leaf.br, Leaf.fail, and_false, or_false, decide_eq_true_eq] at h
          obtain ⟨h0, h1, h⟩ := h
          obtain ⟨he, rfl, rfl⟩ := refOK_leaf h
          obtain ⟨b, κ, hβ, rfl⟩ := ref_inv hx he
          refine Shows.pure hO (.pointer (some ⟨b, k' * w' + (off + i.toNat * et.info.size), none⟩)) ?_ (.ref _ _ _ _ _ b κ he hβ)
          simp [Instr.indexAt, asIntOf, run_underlying hu, Instr.sureAddr, h0, h1, run_size hte, Addr.add_at, Nat.add_assoc]
        · exact h.elim
      · exact h.elim
    · exact h.elim
  · exact h.elim

theorem bt_eq {s : ByteArray} {i : Int} (h0 : 0 ≤ i) (h1 : i < (s.size : Int)) : ∃ h : i.toNat < s.size, bt s i = ((s[i.toNat]'h).toNat : Int) := by
  have h : i.toNat < s.size := by omega
  exact ⟨h, by simp [bt, h]⟩

theorem indexE_ok (hO : OR g L w) {τ : Ty} (hτ : TyOK P τ) {t : TypeId} {x ix : AV} {a b : Value} (hx : R g (szf L) w x a) (hy : R g (szf L) w ix b) {v : AV} {e : Eff}
    (h : OT.Leaf v e (indexE τ t x ix)) : Shows P g L w (Instr.index t a b) v e := by
  unfold indexE at h
  split at h
  · rename_i k i
    obtain rfl := hy.int_inv
    split at h
    · rename_i inf s ht
      have hu := (hτ t _ ht).u
      obtain rfl := hx.str_inv
      simp only [Leaf.br, Leaf.fail, Leaf.val, and_false, or_false, decide_eq_true_eq] at h
      obtain ⟨h0, h1, rfl, rfl⟩ := h
      obtain ⟨hlt, hbt⟩ := bt_eq h0 h1
      refine Shows.pure hO (.int .u8 (bt s i)) ?_ (R.int _ _)
      simp [Instr.index, asIntOf, run_underlying hu, h0, hlt, hbt]
    · rename_i len el inf xs ht
      have hu := (hτ t _ ht).u
      split at h
      · rename_i et het
        simp only [Leaf.br, Leaf.fail, and_false, or_false, decide_eq_true_eq] at h
        obtain ⟨h0, h1, h⟩ := h
        obtain ⟨cs, rfl, hl, hr⟩ := hx.agg_inv
        obtain ⟨u, w', g', hrun, hR, hst⟩ := partE_ok hO (hτ _ _ het) hl hr h
        refine ⟨u, w', g', ?_, hR, hst⟩
        simp [Instr.index, asIntOf, run_underlying hu, h0, h1, run_size (hτ _ _ het), hrun]
      · exact h.elim
    · exact h.elim
  · exact h.elim

theorem extractE_ok (hO : OR g L w) {x : AV} {i : Nat} {a : Value} (hx : R g (szf L) w x a) {v : AV} {e : Eff} (h : OT.Leaf v e (extractE x i)) :
    Shows P g L w (Instr.extract a i) v e := by
  unfold extractE at h
  split at h
  · rename_i xs
    cases hb : Nat.blt i xs.length with
    | false => rw [hb] at h; exact h.elim
    | true =>
      rw [hb] at h
      have hb := Nat.blt_eq.mp hb
      obtain ⟨rfl, rfl⟩ := h
      obtain ⟨cs, rfl, hl, hr⟩ := hx.tup_inv
      have hlt : i < cs.size := by omega
      refine Shows.pure hO (cs.getD i undef) ?_ (hr i hb)
      simp [Instr.extract, hlt]
  · exact h.elim

theorem unE_ok (hO : OR g L w) {op : UnOp} {x : AV} {a : Value} (hx : R g (szf L) w x a) {v : AV} {e : Eff} (h : OT.Leaf v e (unE op x)) :
    Shows P g L w (Op.unary op a) v e := by
  unfold unE at h
  split at h
  · obtain rfl := hx.bool_inv
    obtain ⟨rfl, rfl⟩ := h
    exact Shows.pure hO _ (by simp [Op.unary]) (R.bool _)
  · obtain rfl := hx.int_inv
    obtain ⟨rfl, rfl⟩ := h
    exact Shows.pure hO _ (by simp [Op.unary, Op.intArith, wrapK_eq]) (R.int _ _)
  · exact h.elim

theorem convE_ok (hO : OR g L w) {τ : Ty} (hτ : TyOK P τ) {src dst : TypeId} {x : AV} {a : Value} (hx : R g (szf L) w x a) {v : AV} {e : Eff} (h : OT.Leaf v e (convE τ src dst x)) :
    Shows P g L w (convert src dst a) v e := by
  unfold convE at h
  split at h
  · rename_i i k inf k' n hs hd
    obtain rfl := hx.int_inv
    obtain ⟨rfl, rfl⟩ := h
    refine Shows.pure hO _ ?_ (R.int _ _)
    simp [convert, run_underlying (hτ _ _ hs).u, run_underlying (hτ _ _ hd).u, Conv.intToInt, wrapK_eq]
  · rename_i i inf k n hs hd
    obtain rfl := hx.int_inv
    obtain ⟨rfl, rfl⟩ := h
    refine Shows.pure hO _ ?_ (R.str _)
    simp [convert, run_underlying (hτ _ _ hs).u, run_underlying (hτ _ _ hd).u, Conv.intToString]
  · rename_i i inf s hs hd
    obtain rfl := hx.str_inv
    obtain ⟨rfl, rfl⟩ := h
    refine Shows.pure hO _ ?_ (R.str _)
    simp [convert, run_underlying (hτ _ _ hs).u, run_underlying (hτ _ _ hd).u]
  · exact h.elim
end
end Go.EV
namespace Go.EV
open Go Go.RowKit
set_option linter.unusedSimpArgs false
set_option linter.unusedVariables false

/-! ### slicing -/
def bnd (d : Int) : Option AV → Option Int
  | none => some d
  | some (.int _ n) => some n
  | some _ => none
def chk (present : Bool) (p : Bool) (k : OT) : OT := bif present then .br p k .fail else k

def sliceE (τ : Ty) (L : Obs) (t : TypeId) (x : AV) (lo hi mx : Option AV) : OT :=
  bif mx.isSome then .fail else
  match τ t, x with
  | some ⟨.string, _⟩, .str s =>
    match bnd 0 lo, bnd s.size hi with
    | some l, some h => chk hi.isSome (decide (0 ≤ h)) (chk hi.isSome (decide (h ≤ (s.size : Int))) (chk lo.isSome (decide (0 ≤ l)) (chk lo.isSome (decide (l ≤ h)) (.val (.str (s.extract l.toNat h.toNat)) .no))))
    | _, _ => .fail
  | some ⟨.slice el, _⟩, .sl n w' f =>
    match τ el, bnd 0 lo, bnd n hi with
    | some e, some l, some h => bif Nat.beq e.info.size w' then
        chk hi.isSome (decide (0 ≤ h)) (chk hi.isSome (decide (h ≤ (n : Int))) (chk lo.isSome (decide (0 ≤ l)) (chk lo.isSome (decide (l ≤ h)) (.val (.sl (h.toNat - l.toNat) w' fun i j => f (i + l.toNat) j) .no))))
      else .fail
    | _, _, _ => .fail
  | some ⟨.slice el, _⟩, .osl s w' off len cap =>
    match τ el, bnd 0 lo, bnd len hi, L s with
    | some e, some l, some h, some (.buf n _ _) => bif Nat.beq e.info.size w' then
        .req (off + cap = n) (chk hi.isSome (decide (0 ≤ h)) (chk hi.isSome (decide (h ≤ (cap : Int))) (chk lo.isSome (decide (0 ≤ l)) (chk lo.isSome (decide (l ≤ h))
          (chk lo.isSome (decide (l < (cap : Int))) (.val (.osl s w' (off + l.toNat) (h.toNat - l.toNat) (cap - l.toNat)) .no))))))
      else .fail
    | _, _, _, _ => .fail
  | _, _ => .fail

section
variable {P : Program} {g : G} {L : Obs} {w : World}

theorem chk_leaf {v : AV} {e : Eff} {p b : Bool} {k : OT} (h : OT.Leaf v e (chk p b k)) : (p = true → b = true) ∧ OT.Leaf v e k := by
  unfold chk at h
  cases p with
  | false => exact ⟨(fun h => nomatch h), h⟩
  | true =>
    simp only [cond_true, Leaf.br, Leaf.fail, and_false, or_false] at h
    exact ⟨fun _ => h.1, h.2⟩

theorem sliceBounds_ok (isS : Bool) (len cap : Nat) (lo hi : Option Value) (l h : Int) (hlo : (lo = none ∧ l = 0) ∨ ∃ k, lo = some (.int k l)) (hhi : (hi = none ∧ h = len) ∨ ∃ k, hi = some (.int k h))
    (h0 : 0 ≤ l) (h1 : l ≤ h) (h2 : hi ≠ none → h ≤ cap) : (Instr.sliceBounds isS len cap lo hi none).run P w = .ok (l.toNat, h.toNat, cap) w := by
  have e : ((h.toNat : Nat) : Int) = h := Int.toNat_of_nonneg (by omega)
  rcases hlo with ⟨rfl, rfl⟩ | ⟨k, rfl⟩ <;> rcases hhi with ⟨rfl, rfl⟩ | ⟨k', rfl⟩
  · simp [Instr.sliceBounds]
  · have := h2 (by simp); simp [Instr.sliceBounds, run_sliceBound, this, (by omega : 0 ≤ h)]
  · simp [Instr.sliceBounds, run_sliceBound, h0, h1]
  · have := h2 (by simp); simp [Instr.sliceBounds, run_sliceBound, this, h0, h1, e, (by omega : 0 ≤ h)]

/-- An argument that may be missing. -/
inductive RO (g : G) (sz : Nat → Nat) (w : World) : Option AV → Option Value → Prop
  | none : RO g sz w none none
  | some {x : AV} {v : Value} (h : R g sz w x v) : RO g sz w (some x) (some v)

theorem bnd_ok {sz : Nat → Nat} {o : Option AV} {o' : Option Value} (h : RO g sz w o o') {d l : Int} (hb : bnd d o = some l) : (o' = none ∧ o.isSome = false ∧ l = d) ∨ (o.isSome = true ∧ ∃ k, o' = some (.int k l)) := by
  cases h with
  | none => simp only [bnd, Option.some.injEq] at hb; exact .inl ⟨rfl, rfl, hb.symm⟩
  | @some x v h =>
    cases x with
    | int k n => simp only [bnd, Option.some.injEq] at hb; subst hb; exact .inr ⟨rfl, k, by rw [h.int_inv]⟩
    | _ => simp [bnd] at hb

theorem sliceE_ok (hO : OR g L w) {τ : Ty} (hτ : TyOK P τ) {t : TypeId} {x : AV} {lo hi mx : Option AV} {a : Value} {lo' hi' mx' : Option Value} (hx : R g (szf L) w x a)
    (hlo : RO g (szf L) w lo lo') (hhi : RO g (szf L) w hi hi') (hmx : RO g (szf L) w mx mx') {v : AV} {e : Eff}
    (h : OT.Leaf v e (sliceE τ L t x lo hi mx)) : Shows P g L w (Instr.sliceAt t a lo' hi' mx') v e := by
  unfold sliceE at h
  cases hmx with
  | some _ => exact h.elim
  | none =>
  simp only [Option.isSome_none, cond_false] at h
  have bounds : ∀ {dl : Nat} {l h : Int}, bnd 0 lo = some l → bnd dl hi = some h → (hi.isSome = true → decide (0 ≤ h) = true) → (lo.isSome = true → decide (0 ≤ l) = true) → (lo.isSome = true → decide (l ≤ h) = true) →
      0 ≤ l ∧ l ≤ h ∧ ((lo' = none ∧ l = 0) ∨ ∃ k, lo' = some (.int k l)) ∧ ((hi' = none ∧ hi.isSome = false ∧ h = dl) ∨ (hi.isSome = true ∧ ∃ k, hi' = some (.int k h))) := by
    intro dl l h hl hh c1 c2 c3
    have hl' := bnd_ok hlo hl
    have hh' := bnd_ok hhi hh
    have e0 : 0 ≤ h := by
      rcases hh' with ⟨_, _, rfl⟩ | ⟨h1, _⟩
      · omega
      · exact of_decide_eq_true (c1 h1)
    rcases hl' with ⟨h1, _, rfl⟩ | ⟨h1, k, h2⟩
    · exact ⟨Int.le_refl _, e0, .inl ⟨h1, rfl⟩, hh'⟩
    · exact ⟨of_decide_eq_true (c2 h1), of_decide_eq_true (c3 h1), .inr ⟨k, h2⟩, hh'⟩
  split at h
  · rename_i inf s ht
    have hu := (hτ t _ ht).u
    obtain rfl := hx.str_inv
    split at h
    · rename_i l h' hl hh
      obtain ⟨c1, h⟩ := chk_leaf h; obtain ⟨c2, h⟩ := chk_leaf h; obtain ⟨c3, h⟩ := chk_leaf h; obtain ⟨c4, h⟩ := chk_leaf h
      obtain ⟨rfl, rfl⟩ := h
      obtain ⟨h0, h1, b1, b2⟩ := bounds hl hh c1 c3 c4
      refine Shows.pure hO (.string (s.extract l.toNat h'.toNat)) ?_ (R.str _)
      have hb := sliceBounds_ok (P := P) (w := w) false s.size s.size lo' hi' l h' b1 (b2.imp (fun x => ⟨x.1, x.2.2⟩) (fun x => x.2)) h0 h1 (fun hn => by
        rcases b2 with ⟨x, _⟩ | ⟨x, _⟩
        · exact absurd x hn
        · exact of_decide_eq_true (c2 x))
      simp [Instr.sliceAt, Instr.slice, run_underlying hu, hb]
    · exact h.elim
  · rename_i el inf n w' f ht
    have hu := (hτ t _ ht).u
    split at h
    · rename_i et l h' het hl hh
      cases hb : Nat.beq et.info.size w' with
      | false => rw [hb] at h; exact h.elim
      | true =>
        rw [hb] at h
        have hb := Nat.eq_of_beq_eq_true hb
        obtain ⟨c1, h⟩ := chk_leaf h; obtain ⟨c2, h⟩ := chk_leaf h; obtain ⟨c3, h⟩ := chk_leaf h; obtain ⟨c4, h⟩ := chk_leaf h
        obtain ⟨rfl, rfl⟩ := h
        obtain ⟨h0, h1, b1, b2⟩ := bounds hl hh c1 c3 c4
        have hn : h' ≤ n := by
          rcases b2 with ⟨_, _, x⟩ | ⟨x, _⟩
          · omega
          · exact of_decide_eq_true (c2 x)
        obtain ⟨a', cap, rfl, hin⟩ := hx.sl_inv.sl_inv
        have hcap : n ≤ cap := by
          cases hx.sl_inv with
          | sl0 => omega
          | sl _ _ _ _ _ _ _ _ hn => exact hn
        have hbs := sliceBounds_ok (P := P) (w := w) true n cap lo' hi' l h' b1 (b2.imp (fun x => ⟨x.1, x.2.2⟩) (fun x => x.2)) h0 h1 (fun _ => by omega)
        have hrun : (Instr.sliceAt t (.slice a' n cap) lo' hi' none).run P w = .ok (.slice (if cap = l.toNat then a' else a'.map (·.add (l.toNat * w'))) (h'.toNat - l.toNat) (cap - l.toNat)) w := by
          simp [Instr.sliceAt, Instr.slice, run_underlying hu, hbs, run_size (hτ _ _ het), hb]
        refine Shows.pure hO _ hrun ?_
        rcases Nat.eq_zero_or_pos (h'.toNat - l.toNat) with hz | hz
        · rw [hz]; exact .fz _ _ (.sl0 _ _ _ _)
        · obtain ⟨b, o, c, rfl, hS, hc, hf, hone⟩ := hin (by omega)
          rw [if_neg (by omega)]
          have e1 : ((some ⟨b, o, none⟩ : Option Addr).map (·.add (l.toNat * w'))) = some ⟨b, o + l.toNat * w', none⟩ := by simp [Addr.add_at]
          rw [e1]
          refine .fz _ _ (.sl _ _ _ b _ _ (fun i j => c (i + l.toNat) j) hS (by omega) (fun i j hi hj => ?_) (fun i j hi hj => hf _ j (by omega) hj) (fun i j hi hj => hone _ j (by omega) hj))
          have := hc (i + l.toNat) j (by omega) hj
          rw [Nat.add_mul] at this
          rw [← this]; congr 2; omega
    · exact h.elim
  · rename_i el inf s w' off len cap ht
    have hu := (hτ t _ ht).u
    split at h
    · rename_i et l h' n _ _ het hl hh hs
      cases hb : Nat.beq et.info.size w' with
      | false => rw [hb] at h; exact h.elim
      | true =>
        rw [hb] at h
        have hb := Nat.eq_of_beq_eq_true hb
        obtain ⟨he, h⟩ := h
        obtain ⟨c1, h⟩ := chk_leaf h; obtain ⟨c2, h⟩ := chk_leaf h; obtain ⟨c3, h⟩ := chk_leaf h; obtain ⟨c4, h⟩ := chk_leaf h; obtain ⟨c5, h⟩ := chk_leaf h
        obtain ⟨rfl, rfl⟩ := h
        obtain ⟨h0, h1, b1, b2⟩ := bounds hl hh c1 c3 c4
        have hsz : szf L s = n := by simp [szf, hs, szOf]
        rcases osl_inv hx (by rw [hsz]; exact he) with ⟨a', rfl, rfl, rfl, rfl⟩ | ⟨b, κ, hβ, rfl, hll, hκ, hc⟩
        · have hh0 : h' = 0 := by
            rcases b2 with ⟨_, _, x⟩ | ⟨x, _⟩
            · simpa using x
            · have := of_decide_eq_true (c2 x); simp at this; omega
          subst hh0
          obtain rfl : l = 0 := by omega
          have hbs := sliceBounds_ok (P := P) (w := w) true 0 0 lo' hi' 0 0 b1 (b2.imp (fun x => ⟨x.1, by simp⟩) (fun x => x.2)) h0 h1 (fun _ => by simp)
          simp only [Int.toNat_zero] at hbs
          refine Shows.pure hO (.slice a' 0 0) ?_ (by simp at he ⊢; exact .osl0 _ _ _ (by rw [hsz, ← he]))
          simp [Instr.sliceAt, Instr.slice, run_underlying hu, hbs, run_size (hτ _ _ het), hb]
        · have hn : h' ≤ cap := by
            rcases b2 with ⟨_, _, x⟩ | ⟨x, _⟩
            · omega
            · exact of_decide_eq_true (c2 x)
          have hlc : l.toNat < cap := by
            cases hls : lo.isSome with
            | true => have := of_decide_eq_true (c5 hls); omega
            | false =>
              have : l = 0 := by
                have := bnd_ok hlo hl
                rcases this with ⟨_, _, x⟩ | ⟨x, _⟩
                · exact x
                · rw [hls] at x; cases x
              omega
          have hbs := sliceBounds_ok (P := P) (w := w) true len (κ - off) lo' hi' l h' b1 (b2.imp (fun x => ⟨x.1, x.2.2⟩) (fun x => x.2)) h0 h1 (fun _ => by omega)
          have hne : κ - off ≠ l.toNat := by omega
          have hrun : (Instr.sliceAt t (.slice (some ⟨b, off * w', none⟩) len (κ - off)) lo' hi' none).run P w = .ok (.slice (some ⟨b, (off + l.toNat) * w', none⟩) (h'.toNat - l.toNat) (κ - (off + l.toNat))) w := by
            simp [Instr.sliceAt, Instr.slice, run_underlying hu, hbs, run_size (hτ _ _ het), hb, hne, Addr.add_at, Nat.add_mul]
            omega
          exact Shows.pure hO _ hrun (.osl _ _ _ _ _ b κ hβ (by omega) (by omega) hκ (by omega))
    · exact h.elim
  · exact h.elim
end
end Go.EV
namespace Go.EV
open Go Go.RowKit
set_option linter.unusedSimpArgs false
set_option linter.unusedVariables false

/-! ### put together -/
def fillA (place : Nat → Option (Nat × Nat)) (cells : List AV) : List (Nat × AV) → Option (List AV)
  | [] => some cells
  | (i, v) :: r =>
    match place i with
    | some (off, size) =>
      bif cellsOK v && (Nat.beq (cellsA v).length size && Nat.ble (off + (cellsA v).length) cells.length) then fillA place (putL cells off (cellsA v)) r else none
    | none => none

/-- Parts in order, one behind the other: the same, in a way that is quick to tell. -/
def fastL (size : Nat) : Nat → List (Nat × AV) → Option (List AV)
  | _, [] => some []
  | i, (j, v) :: r =>
    bif Nat.beq j i && (cellsOK v && Nat.beq (cellsA v).length size) then
      match fastL size (i + 1) r with
      | some cs => some (cellsA v ++ cs)
      | none => none
    else none
def fillF (size len : Nat) (cells : List AV) (parts : List (Nat × AV)) : Option (List AV) :=
  bif Nat.beq parts.length len then
    match fastL size 0 parts with
    | some cs => some cs
    | none => fillA (fun i => some (i * size, size)) cells parts
  else fillA (fun i => some (i * size, size)) cells parts
theorem fastL_fill (size : Nat) : ∀ (parts : List (Nat × AV)) (i : Nat) (pre rest cs : List AV), pre.length = i * size → rest.length = parts.length * size → fastL size i parts = some cs →
    fillA (fun i => some (i * size, size)) (pre ++ rest) parts = some (pre ++ cs)
  | [], i, pre, rest, cs, hp, hr, h => by
    have : rest = [] := List.length_eq_zero_iff.1 (by simpa using hr)
    subst this
    cases h
    rfl
  | (j, v) :: r, i, pre, rest, cs, hp, hr, h => by
    simp only [fastL] at h
    cases hb : (Nat.beq j i && (cellsOK v && Nat.beq (cellsA v).length size)) with
    | false => rw [hb] at h; cases h
    | true =>
      rw [hb] at h
      simp only [Bool.and_eq_true, Nat.beq_eq] at hb
      obtain ⟨rfl, h1, h2⟩ := hb
      simp only [cond_true] at h
      cases hf : fastL size (j + 1) r with
      | none => rw [hf] at h; cases h
      | some cs' =>
        rw [hf] at h
        cases h
        have hl : rest.length = r.length * size + size := by rw [hr, List.length_cons, Nat.add_mul]; omega
        simp only [fillA]
        have hc : (cellsOK v && (Nat.beq (cellsA v).length size && Nat.ble (j * size + (cellsA v).length) (pre ++ rest).length)) = true := by
          simp only [Bool.and_eq_true, Nat.beq_eq, Nat.ble_eq]
          exact ⟨h1, h2, by rw [List.length_append]; omega⟩
        rw [hc]
        simp only [cond_true]
        have hput : putL (pre ++ rest) (j * size) (cellsA v) = (pre ++ cellsA v) ++ rest.drop size := by
          unfold putL
          rw [← hp, List.take_left, h2, List.drop_append]
          rw [List.drop_eq_nil_of_le (by omega), List.nil_append, Nat.add_sub_cancel_left]
        rw [hput, fastL_fill size r (j + 1) (pre ++ cellsA v) (rest.drop size) cs' (by rw [List.length_append, Nat.add_mul]; omega) (by rw [List.length_drop]; omega) hf, List.append_assoc]
theorem fillF_eq (size len : Nat) (cells : List AV) (parts : List (Nat × AV)) (hl : cells.length = len * size) : fillF size len cells parts = fillA (fun i => some (i * size, size)) cells parts := by
  unfold fillF
  cases hb : Nat.beq parts.length len with
  | false => rfl
  | true =>
    simp only [cond_true]
    cases hf : fastL size 0 parts with
    | none => rfl
    | some cs =>
      have := fastL_fill size parts 0 [] cells cs (by simp) (by rw [hl, Nat.eq_of_beq_eq_true hb]) hf
      simpa using this.symm

def placesA (τ : Ty) : List Field → Option (List (Nat × Nat))
  | [] => some []
  | f :: r =>
    match τ f.type, placesA τ r with
    | some i, some l => some ((f.offset, i.info.size) :: l)
    | _, _ => none

def buildE (τ : Ty) (t : TypeId) (parts : List (Nat × AV)) : OT :=
  match τ t with
  | some ⟨.struct fields, inf⟩ =>
    match inf.zero, placesA τ fields.toList with
    | some z, some pl =>
      match fillA (fun i => pl[i]?) (cellsA (ofV z)) parts with
      | some cs => .val (.agg cs) .no
      | none => .fail
    | _, _ => .fail
  | some ⟨.array _ el, inf⟩ =>
    match inf.zero, τ el with
    | some z, some e =>
      match fillA (fun i => some (i * e.info.size, e.info.size)) (cellsA (ofV z)) parts with
      | some cs => .val (.agg cs) .no
      | none => .fail
    | _, _ => .fail
  | _ => .fail

/-- Cells of a literal slice's elements. -/
def litE (τ : Ty) (t : TypeId) (len : Nat) (parts : List (Nat × AV)) : Option (Nat × List AV) :=
  match τ t with
  | some ⟨.slice el, _⟩ =>
    match τ el with
    | some e =>
      match e.info.zero with
      | some z =>
        bif Nat.ble (len * e.info.size) 16777216 && (Nat.beq (cellsA (ofV z)).length e.info.size && Nat.blt 0 e.info.size) then
          match fillF e.info.size len ((List.range (len * e.info.size)).map fun k => (cellsA (ofV z)).getD (k % e.info.size) .bad) parts with
          | some cs => bif cs.all oneA then some (e.info.size, cs) else none
          | none => none
        else none
      | none => none
    | none => none
  | _ => none

def buildSliceE (τ : Ty) (own : Nat → Bool) (L : Obs) (d : Option Nat) (t : TypeId) (len : Nat) (parts : List (Nat × AV)) : OT :=
  match litE τ t len parts, d with
  | some (size, cs), some d =>
    bif cs.all isF then
      bif own d then
        match L d with
        | none => .val (.osl d size 0 len len) (.new d (.buf len size fun i j => cs.getD (i * size + j) .bad))
        | some _ => .fail
      else .val (.sl len size fun i j => cs.getD (i * size + j) .bad) .no
    else .fail
  | _, _ => .fail

def makeSliceE (τ : Ty) (L : Obs) (d : Option Nat) (t : TypeId) (len cap : AV) : OT :=
  match τ t, len, cap, d with
  | some ⟨.slice el, _⟩, .int _ l, .int _ c, some d =>
    match τ el with
    | some e =>
      match e.info.zero, L d with
      | some z, none =>
        bif Nat.beq (cellsA (ofV z)).length e.info.size && (Nat.blt 0 e.info.size && (Nat.ble e.info.bytes 256 && (cellsA (ofV z)).all fun x => oneA x && isF x)) then
          .br (decide (0 ≤ l)) (.br (decide (l ≤ c)) (.br (decide (c ≤ 1099511627776))
            (.val (.osl d e.info.size 0 l.toNat c.toNat) (.new d (.buf c.toNat e.info.size fun _ j => (cellsA (ofV z)).getD j .bad))) .fail) .fail) .fail
        else .fail
      | _, _ => .fail
    | none => .fail
  | _, _, _, _ => .fail

def lenE (τ : Ty) (t : TypeId) (x : AV) : OT :=
  match τ t, x with
  | some ⟨.string, _⟩, .str s => .val (.int .i64 s.size) .no
  | some ⟨.slice _, _⟩, .sl n _ _ => .val (.int .i64 n) .no
  | some ⟨.slice _, _⟩, .v (.slice _ n _) => .val (.int .i64 n) .no
  | some ⟨.array n _, _⟩, _ => .val (.int .i64 n) .no
  | _, _ => .fail
def lenOE (τ : Ty) (L : Obs) (t : TypeId) (x : AV) : OT :=
  match τ t, x with
  | some ⟨.slice _, _⟩, .osl s w' off len cap => .req (off + cap = szf L s) (.val (.int .i64 len) .no)
  | _, x => lenE τ t x

def foldE (f : Int → Int → Int) (k : IntKind) : Int → List AV → Option Int
  | a, [] => some a
  | a, .int _ b :: r => foldE f k (f a b) r
  | _, _ => none
def minmaxE (f : Int → Int → Int) : List AV → OT
  | .int k a :: r => match foldE f k a r with
    | some n => .val (.int k n) .no
    | none => .fail
  | _ => .fail

section
variable {P : Program} {g : G} {L : Obs} {w : World}

theorem foldl_put (l : List Value) : ∀ (off n : Nat) (cells : Array Value), off + n + l.length ≤ cells.size →
    ((l.zipIdx n).foldl (fun cs x => cs.setIfInBounds (off + x.2) x.1) cells).toList = cells.toList.take (off + n) ++ l ++ cells.toList.drop (off + n + l.length) := by
  induction l with
  | nil => intro off n cells h; simp
  | cons a r ih =>
    intro off n cells h
    simp only [List.zipIdx_cons, List.foldl_cons, List.length_cons] at h ⊢
    rw [ih off (n + 1) _ (by simp; omega)]
    have := list_seg_step cells.toList (off + n) a r (by simp; omega)
    simpa [Array.toList_setIfInBounds, Nat.add_assoc] using this

/-- Cells that stand for one another. -/
def CR (g : G) (sz : Nat → Nat) (w : World) (xs : List AV) (cs : Array Value) : Prop :=
  cs.size = xs.length ∧ (∀ i, i < xs.length → R g sz w (xs.getD i .bad) (cs.getD i undef))

theorem CR.put {sz : Nat → Nat} {xs : List AV} {cs : Array Value} (h : CR g sz w xs cs) {off : Nat} {ys : List AV} {us : Array Value} (hy : CR g sz w ys us) (hle : off + ys.length ≤ xs.length) :
    CR g sz w (putL xs off ys) (us.zipIdx.foldl (fun cs (x : Value × Nat) => cs.setIfInBounds (off + x.2) x.1) cs) := by
  have e := foldl_put us.toList off 0 cs (by simp [h.1, hy.1]; exact hle)
  simp only [Nat.add_zero] at e
  have hsz : us.toList.length = ys.length := by simp [hy.1]
  have ea : (us.zipIdx.foldl (fun cs (x : Value × Nat) => cs.setIfInBounds (off + x.2) x.1) cs).toList = cs.toList.take off ++ us.toList ++ cs.toList.drop (off + us.toList.length) := by
    rw [← e, ← Array.foldl_toList, Array.toList_zipIdx]
  constructor
  · rw [putL_len _ _ _ hle, ← Array.length_toList, ea]; simp [hy.1, h.1]; omega
  · intro i hi
    rw [putL_len _ _ _ hle] at hi
    rw [← arr_toList_getD, ea, getD_seg undef _ _ _ (by simp [h.1, hy.1]; exact hle), putL, getD_seg _ _ _ _ hle, hsz]
    split
    · rw [arr_toList_getD]; exact hy.2 _ (by omega)
    · rw [arr_toList_getD]; exact h.2 i hi

theorem fillA_ok {sz : Nat → Nat} {place : Nat → Option (Nat × Nat)} : ∀ {parts : List (Nat × AV)} {parts' : List (Nat × Value)} {xs ys : List AV} {cs : Array Value},
    CR g sz w xs cs → parts'.length = parts.length → (∀ i, i < parts.length → (parts'.getD i default).1 = (parts.getD i default).1 ∧ R g sz w (parts.getD i default).2 (parts'.getD i default).2) →
    fillA place xs parts = some ys → ∃ cs', Instr.fill place cs parts' = some cs' ∧ CR g sz w ys cs'
  | [], parts', xs, ys, cs, h, hl, _, hf => by
    have : parts' = [] := List.eq_nil_of_length_eq_zero (by simpa using hl)
    subst this
    simp only [fillA, Option.some.injEq] at hf
    subst hf
    exact ⟨cs, rfl, h⟩
  | (i, v) :: r, [], xs, ys, cs, h, hl, hr, hf => by simp at hl
  | (i, v) :: r, (i', v') :: r', xs, ys, cs, h, hl, hr, hf => by
    have h0 := hr 0 (by simp)
    simp only [List.getD, List.getElem?_cons_zero, Option.getD_some] at h0
    obtain ⟨rfl, hv⟩ := h0
    simp only [fillA] at hf
    split at hf
    · rename_i off size hp
      cases hb : (cellsOK v && (Nat.beq (cellsA v).length size && Nat.ble (off + (cellsA v).length) xs.length)) with
      | false => rw [hb] at hf; cases hf
      | true =>
        rw [hb] at hf
        simp only [Bool.and_eq_true, Nat.beq_eq, Nat.ble_eq] at hb
        obtain ⟨h1, h2, h3⟩ := hb
        obtain ⟨hc1, hc2, _⟩ := hv.cells h1
        obtain ⟨cs', e1, e2⟩ := fillA_ok (parts' := r') (h.put (us := v'.cells) ⟨hc1, hc2⟩ h3) (by simpa using hl) (fun j hj => by have := hr (j + 1) (by simp; omega); simpa [List.getD] using this) hf
        refine ⟨cs', ?_, e2⟩
        simp only [Instr.fill, hp]
        have hno : (decide (v'.cells.size ≠ size) || decide (off + v'.cells.size > cs.size)) = false := by
          rw [hc1, h2, h.1]; simp; omega
        rw [hno]
        exact e1
    · cases hf

theorem placesA_run {τ : Ty} (hτ : TyOK P τ) : ∀ (fs : List Field) (pl : List (Nat × Nat)), placesA τ fs = some pl →
    (fs.mapM fun f => (do pure (f.offset, ← sizeOf f.type) : Sem (Nat × Nat))).run P w = .ok pl w
  | [], pl, h => by simp only [placesA, Option.some.injEq] at h; subst h; rfl
  | f :: r, pl, h => by
    simp only [placesA] at h
    split at h
    · rename_i i l hi hl
      cases h
      have ih := placesA_run hτ r l hl
      simp only [List.mapM_cons, Sem.run_bind, run_size (hτ _ _ hi), Result.andThen_ok, Sem.run_pure, ih]
    · cases h

/-- Parts with numbers. -/
def PR (g : G) (sz : Nat → Nat) (w : World) (parts : List (Nat × AV)) (parts' : List (Nat × Value)) : Prop :=
  parts'.length = parts.length ∧ ∀ i, i < parts.length → (parts'.getD i default).1 = (parts.getD i default).1 ∧ R g sz w (parts.getD i default).2 (parts'.getD i default).2

theorem buildE_ok (hO : OR g L w) {τ : Ty} (hτ : TyOK P τ) {t : TypeId} {parts : List (Nat × AV)} {parts' : Array (Nat × Value)} (hp : PR g (szf L) w parts parts'.toList) {v : AV} {e : Eff}
    (h : OT.Leaf v e (buildE τ t parts)) : Shows P g L w (Instr.build t parts') v e := by
  unfold buildE at h
  split at h
  · rename_i fields inf ht
    split at h
    · rename_i z pl hz hpl
      split at h
      · rename_i cs hcs
        obtain ⟨rfl, rfl⟩ := h
        obtain ⟨h1, h2⟩ := ofV_cells (g := g) (L := L) (w := w) z
        obtain ⟨cs', e1, e2⟩ := fillA_ok ⟨h1, h2⟩ hp.1 hp.2 hcs
        refine Shows.pure hO (.agg cs') ?_ (.agg _ _ e2.1 e2.2)
        have hm := placesA_run (w := w) hτ fields.toList pl hpl
        have hm2 : (fields.mapM fun f => (do pure (f.offset, ← sizeOf f.type) : Sem (Nat × Nat))).run P w = .ok pl.toArray w := by
          rw [Array.mapM_eq_mapM_toList, Sem.run_map, hm]; rfl
        have e3 : Instr.fill (fun x => pl.toArray[x]?) z.cells parts'.toList = some cs' := by simpa using e1
        simp only [Instr.build, Sem.run_bind, zeroValue, typeInfo, run_program, (hτ t _ ht).i, hz, Sem.run_pure, Result.andThen_ok, run_underlying (hτ t _ ht).u, hm2, e3]
      · exact h.elim
    · exact h.elim
  · rename_i n el inf ht
    split at h
    · rename_i z et hz het
      split at h
      · rename_i cs hcs
        obtain ⟨rfl, rfl⟩ := h
        obtain ⟨h1, h2⟩ := ofV_cells (g := g) (L := L) (w := w) z
        obtain ⟨cs', e1, e2⟩ := fillA_ok ⟨h1, h2⟩ hp.1 hp.2 hcs
        refine Shows.pure hO (.agg cs') ?_ (.agg _ _ e2.1 e2.2)
        simp only [Instr.build, Sem.run_bind, zeroValue, typeInfo, run_program, (hτ t _ ht).i, hz, Sem.run_pure, Result.andThen_ok, run_underlying (hτ t _ ht).u, run_size (hτ _ _ het), e1]
      · exact h.elim
    · exact h.elim
  · exact h.elim
end
end Go.EV
namespace Go.EV
open Go Go.RowKit
set_option linter.unusedSimpArgs false
set_option linter.unusedVariables false
section
variable {P : Program} {g : G} {L : Obs} {w : World}

theorem zcells_getElem! (z : Array Value) (k n : Nat) (h : 0 < z.size) : (z[k % z.size]! : Value) = z.getD (k % z.size) undef := by
  have : k % z.size < z.size := Nat.mod_lt _ h
  simp [this]

theorem made_getD (z : Array Value) (n k : Nat) (hz : 0 < z.size) (hk : k < n) : ((Array.range n).map (z[· % z.size]!)).getD k undef = z.getD (k % z.size) undef := by
  have h1 : k < ((Array.range n).map (z[· % z.size]!)).size := by simpa using hk
  have h2 : k % z.size < z.size := Nat.mod_lt _ hz
  simp only [Array.getD_eq_getD_getElem?, Array.getElem?_eq_getElem h1, Array.getElem?_eq_getElem h2, Option.getD_some, Array.getElem_map, Array.getElem_range]
  simp [h2]

theorem litE_run {τ : Ty} (hτ : TyOK P τ) {t : TypeId} {len size : Nat} {parts : List (Nat × AV)} {parts' : Array (Nat × Value)} {xs : List AV} (hp : PR g (szf L) w parts parts'.toList)
    (h : litE τ t len parts = some (size, xs)) : ∃ el cs, (Instr.buildSlice t len parts').run P w = .ok (.slice (some ⟨w.heap.size, 0, none⟩) len len) (w.alloc (.cells cs el)) ∧
      CR g (szf L) w xs cs ∧ xs.length = len * size ∧ 0 < size ∧ ∀ i, i < xs.length → (cs.getD i undef).oneCell' = true := by
  unfold litE at h
  split at h
  · rename_i el inf ht
    split at h
    · rename_i et het
      split at h
      · rename_i z hz
        cases hb : (Nat.ble (len * et.info.size) 16777216 && (Nat.beq (cellsA (ofV z)).length et.info.size && Nat.blt 0 et.info.size)) with
        | false => rw [hb] at h; cases h
        | true =>
          rw [hb] at h
          simp only [Bool.and_eq_true, Nat.beq_eq, Nat.ble_eq, Nat.blt_eq] at hb
          obtain ⟨hb1, hb2, hb3⟩ := hb
          simp only [cond_true] at h
          split at h
          · rename_i cs hcs
            rw [fillF_eq _ _ _ _ (by simp)] at hcs
            cases hone : cs.all oneA with
            | false => rw [hone] at h; cases h
            | true =>
            rw [hone] at h
            cases h
            obtain ⟨h1, h2⟩ := ofV_cells (g := g) (L := L) (w := w) z
            have hzs : z.cells.size = et.info.size := h1.trans hb2
            have h0 : CR g (szf L) w ((List.range (len * et.info.size)).map fun k => (cellsA (ofV z)).getD (k % et.info.size) .bad) ((Array.range (len * et.info.size)).map (z.cells[· % z.cells.size]!)) := by
              refine ⟨by simp, fun i hi => ?_⟩
              have hi : i < len * et.info.size := by simpa using hi
              rw [made_getD _ _ _ (by omega) hi, hzs]
              have e1 : ((List.range (len * et.info.size)).map fun k => (cellsA (ofV z)).getD (k % et.info.size) AV.bad).getD i .bad = (cellsA (ofV z)).getD (i % et.info.size) .bad := by
                simp [List.getD, hi]
              rw [e1]
              exact h2 _ (by rw [hb2]; exact Nat.mod_lt _ hb3)
            obtain ⟨cs', e1, e2⟩ := fillA_ok h0 hp.1 hp.2 hcs
            have hlen : ∀ {parts : List (Nat × AV)} {xs ys : List AV} {place : Nat → Option (Nat × Nat)}, fillA place xs parts = some ys → ys.length = xs.length := by
              intro parts
              induction parts with
              | nil => intro xs ys place h; simp only [fillA, Option.some.injEq] at h; rw [h]
              | cons p r ih =>
                intro xs ys place h
                obtain ⟨i, v⟩ := p
                simp only [fillA] at h
                split at h
                · rename_i off size hpl
                  cases hbb : (cellsOK v && (Nat.beq (cellsA v).length size && Nat.ble (off + (cellsA v).length) xs.length)) with
                  | false => rw [hbb] at h; cases h
                  | true =>
                    rw [hbb] at h
                    simp only [Bool.and_eq_true, Nat.beq_eq, Nat.ble_eq] at hbb
                    rw [ih h, putL_len _ _ _ hbb.2.2]
                · cases h
            have hl := hlen hcs
            simp only [List.length_map, List.length_range] at hl
            refine ⟨el, cs', ?_, e2, hl, hb3, fun i hi => ?_⟩
            · have hle : ¬ (len * et.info.size > 2 ^ 24) := by simpa using hb1
              by_cases hz0 : len * et.info.size = 0
              · have e3 : ((Array.range (len * et.info.size)).map (z.cells[· % z.cells.size]!)) = #[] := by rw [hz0]; simp
                rw [e3] at e1
                simp [Instr.buildSlice, run_underlying (hτ t _ ht).u, run_size (hτ _ _ het), hz0, e1, newRow, Array.range_zero']
              · simp [Instr.buildSlice, run_underlying (hτ t _ ht).u, run_size (hτ _ _ het), hz0, zeroValue, typeInfo, (hτ _ _ het).i, hz, newRow]
                rw [if_neg (by omega)]
                simp only [e1]
                simp
            · have ho : oneA (xs.getD i .bad) = true := by
                have := List.all_eq_true.1 hone _ (List.getElem_mem hi)
                simpa [List.getD, hi] using this
              exact (e2.2 i hi).one ho
          · cases h
      · cases h
    · cases h
  · cases h

theorem buildSliceE_ok (hO : OR g L w) {τ : Ty} (hτ : TyOK P τ) {own : Nat → Bool} {d : Option Nat} {t : TypeId} {len : Nat} {parts : List (Nat × AV)} {parts' : Array (Nat × Value)}
    (hp : PR g (szf L) w parts parts'.toList) {v : AV} {e : Eff} (h : OT.Leaf v e (buildSliceE τ own L d t len parts)) : Shows P g L w (Instr.buildSlice t len parts') v e := by
  unfold buildSliceE at h
  split at h
  · rename_i size xs d hlit
    obtain ⟨el, cs, hrun, hCR, hlen, hsz, hone⟩ := litE_run hτ hp hlit
    cases hF : xs.all isF with
    | false => rw [hF] at h; exact h.elim
    | true =>
      rw [hF] at h
      simp only [cond_true] at h
      have hFi : ∀ i j, i < len → j < size → i * size + j < xs.length := by
        intro i j hi hj
        have : (i + 1) * size ≤ len * size := Nat.mul_le_mul_right _ hi
        rw [Nat.add_mul] at this; omega
      have hFr : ∀ i j, i < len → j < size → F g.S w (xs.getD (i * size + j) .bad) (cs.getD (i * size + j) undef) := by
        intro i j hi hj
        have hlt := hFi i j hi hj
        have hf : isF (xs.getD (i * size + j) .bad) = true := by
          have := List.all_eq_true.1 hF _ (List.getElem_mem hlt)
          simpa [List.getD, hlt] using this
        exact (hCR.2 _ hlt).toF hf
      cases hown : own d with
      | true =>
        rw [hown] at h
        simp only [cond_true] at h
        split at h
        · rename_i hd
          obtain ⟨rfl, rfl⟩ := h
          rcases Nat.eq_zero_or_pos len with rfl | hl0
          · have hst := Stp.ghostA hO hd size (fun i j => xs.getD (i * size + j) .bad) (.cells cs el)
            exact ⟨_, _, _, hrun, .osl0 _ _ _ (by simp [szf, app_new, upd1_self, szOf]), hst⟩
          have hst := Stp.buf hO hd len len size (fun i j => xs.getD (i * size + j) .bad) cs el (Nat.le_refl _) (by rw [hCR.1, hlen]) (fun i j hi hj => ⟨hFr i j hi hj, hone _ (hFi i j hi hj)⟩)
          refine ⟨_, _, _, hrun, ?_, hst⟩
          have hsz2 : szf ((Eff.new d (.buf len size fun i j => xs.getD (i * size + j) .bad)).app L) d = len := by simp [szf, app_new, upd1_self, szOf]
          have := R.osl (g := g.at d w.heap.size len) (sz := szf ((Eff.new d (.buf len size fun i j => xs.getD (i * size + j) .bad)).app L)) (w := w.alloc (.cells cs el)) d size 0 len len w.heap.size len (upd1_self _ _ _) (by rw [hsz2]; omega) (Nat.le_refl _) (by rw [hsz2]; exact Nat.le_refl _) hl0
          simpa using this
        · exact h.elim
      | false =>
        rw [hown] at h
        obtain ⟨rfl, rfl⟩ := h
        have hst := Stp.fz hO (.cells cs el)
        refine ⟨_, _, _, hrun, ?_, hst⟩
        refine .fz _ _ (.sl _ _ _ w.heap.size 0 len (fun i j => cs.getD (i * size + j) undef) (.inr rfl) (Nat.le_refl _) (fun i j hi hj => ?_) (fun i j hi hj => (hFr i j hi hj).mono hst.m.S hst.m.cell) (fun i j hi hj => hone _ (hFi i j hi hj)))
        have := cell_of (push_new w (.cells cs el)) (o := 0 + i * size + j) (by rw [hCR.1]; have := hFi i j hi hj; omega)
        simpa using this
  · exact h.elim

theorem makeSliceE_ok (hO : OR g L w) {τ : Ty} (hτ : TyOK P τ) {d : Option Nat} {t : TypeId} {x y : AV} {a b : Value} (hx : R g (szf L) w x a) (hy : R g (szf L) w y b) {v : AV} {e : Eff}
    (h : OT.Leaf v e (makeSliceE τ L d t x y)) : Shows P g L w (Instr.makeSlice t a b) v e := by
  unfold makeSliceE at h
  split at h
  · rename_i el inf kl l kc c d ht
    obtain rfl := hx.int_inv; obtain rfl := hy.int_inv
    split at h
    · rename_i et het
      split at h
      · rename_i z hz hd
        cases hb : (Nat.beq (cellsA (ofV z)).length et.info.size && (Nat.blt 0 et.info.size && (Nat.ble et.info.bytes 256 && (cellsA (ofV z)).all fun x => oneA x && isF x))) with
        | false => rw [hb] at h; exact h.elim
        | true =>
          rw [hb] at h
          simp only [Bool.and_eq_true, Nat.beq_eq, Nat.ble_eq, Nat.blt_eq] at hb
          obtain ⟨hb1, hb2, hb3, hb4⟩ := hb
          simp only [cond_true, Leaf.br, Leaf.fail, Leaf.val, and_false, or_false, decide_eq_true_eq] at h
          obtain ⟨h0, hlc, hc, rfl, rfl⟩ := h
          obtain ⟨h1, h2⟩ := ofV_cells (g := g) (L := L) (w := w) z
          have hzs : z.cells.size = et.info.size := h1.trans hb1
          have hbytes : (et.info.bytes : Int) * c ≤ 281474976710656 := by
            have h3 : (et.info.bytes : Int) * c ≤ 256 * c := Int.mul_le_mul_of_nonneg_right (by omega) (by omega)
            omega
          have hrun := run_make (P := P) w t el et.info z (hτ t _ ht).u (hτ _ _ het).i hz kl kc l c h0 hlc hbytes (by omega)
          have hst := Stp.buf hO hd c.toNat c.toNat et.info.size (fun _ j => (cellsA (ofV z)).getD j .bad) (madeCells z.cells (c.toNat * et.info.size)) el (Nat.le_refl _) (size_madeCells _ _) (fun i j hi hj => by
            have hlt : i * et.info.size + j < c.toNat * et.info.size := by
              have : (i + 1) * et.info.size ≤ c.toNat * et.info.size := Nat.mul_le_mul_right _ hi
              rw [Nat.add_mul] at this; omega
            have e1 : (madeCells z.cells (c.toNat * et.info.size)).getD (i * et.info.size + j) undef = z.cells.getD j undef := by
              unfold madeCells
              rw [made_getD _ _ _ (by omega) hlt, hzs, Nat.mul_comm i, Nat.mul_add_mod, Nat.mod_eq_of_lt hj]
            rw [e1]
            have hj' : j < (cellsA (ofV z)).length := by omega
            have h5 := List.all_eq_true.1 hb4 _ (List.getElem_mem hj')
            simp only [Bool.and_eq_true] at h5
            have e2 : (cellsA (ofV z)).getD j .bad = (cellsA (ofV z))[j] := by simp [List.getD, hj']
            have h6 := h2 j hj'
            rw [e2] at h6 ⊢
            exact ⟨h6.toF h5.2, h6.one h5.1⟩)
          refine ⟨_, _, _, hrun, ?_, hst⟩
          have hsz2 : szf ((Eff.new d (.buf c.toNat et.info.size fun _ j => (cellsA (ofV z)).getD j .bad)).app L) d = c.toNat := by simp [szf, app_new, upd1_self, szOf]
          rcases Nat.eq_zero_or_pos c.toNat with hc0 | hc0
          · have hl0 : l.toNat = 0 := by omega
            rw [hl0, hc0]
            exact .osl0 _ _ _ (by rw [← hc0, hsz2])
          · have := R.osl (g := g.at d w.heap.size c.toNat) (sz := szf ((Eff.new d (.buf c.toNat et.info.size fun _ j => (cellsA (ofV z)).getD j .bad)).app L)) (w := w.alloc (.cells (madeCells z.cells (c.toNat * et.info.size)) el)) d et.info.size 0 l.toNat c.toNat w.heap.size c.toNat
              (upd1_self _ _ _) (by rw [hsz2]; omega) (by omega) (by rw [hsz2]; exact Nat.le_refl _) hc0
            simpa using this
      · exact h.elim
    · exact h.elim
  · exact h.elim

theorem lenE_ok (hO : OR g L w) {τ : Ty} (hτ : TyOK P τ) {t ty : TypeId} {x : AV} {a : Value} (hx : R g (szf L) w x a) {v : AV} {e : Eff} (h : OT.Leaf v e (lenE τ t x)) :
    Shows P g L w (Builtin.len_ #[t] ty #[a]) v e := by
  unfold lenE at h
  split at h
  · rename_i inf s ht
    obtain rfl := hx.str_inv
    obtain ⟨rfl, rfl⟩ := h
    exact Shows.pure hO _ (by simp [Builtin.len_, run_underlying (hτ t _ ht).u]; rfl) (R.int _ _)
  · rename_i el inf n w' f ht
    obtain ⟨a', cap, rfl, _⟩ := hx.sl_inv.sl_inv
    obtain ⟨rfl, rfl⟩ := h
    exact Shows.pure hO _ (by simp [Builtin.len_, run_underlying (hτ t _ ht).u]; rfl) (R.int _ _)
  · rename_i el inf a' n c ht
    obtain rfl := hx.v_inv
    obtain ⟨rfl, rfl⟩ := h
    exact Shows.pure hO _ (by simp [Builtin.len_, run_underlying (hτ t _ ht).u]; rfl) (R.int _ _)
  · rename_i n el inf ht
    obtain ⟨rfl, rfl⟩ := h
    exact Shows.pure hO _ (by simp [Builtin.len_, run_underlying (hτ t _ ht).u]; rfl) (R.int _ _)
  · exact h.elim

theorem lenOE_ok (hO : OR g L w) {τ : Ty} (hτ : TyOK P τ) {t ty : TypeId} {x : AV} {a : Value} (hx : R g (szf L) w x a) {v : AV} {e : Eff} (h : OT.Leaf v e (lenOE τ L t x)) :
    Shows P g L w (Builtin.len_ #[t] ty #[a]) v e := by
  unfold lenOE at h
  split at h
  · rename_i el inf s w' off len cap ht
    obtain ⟨he, rfl, rfl⟩ := h
    have hn : ∃ a' c, a = .slice a' len c := by
      rcases osl_inv hx he with ⟨a', rfl, rfl, rfl, rfl⟩ | ⟨b, κ, hβ, rfl, _⟩
      · exact ⟨_, _, rfl⟩
      · exact ⟨_, _, rfl⟩
    obtain ⟨a', c, rfl⟩ := hn
    exact Shows.pure hO _ (by simp [Builtin.len_, run_underlying (hτ t _ ht).u]; rfl) (R.int _ _)
  · exact lenE_ok hO hτ hx h

theorem foldE_run {sz : Nat → Nat} {f : Int → Int → Int} {k : IntKind} {m2 : Value → Value → Sem Value} (hm : ∀ k k' a b, (m2 (.int k a) (.int k' b)).run P w = .ok (.int k (f a b)) w) :
    ∀ (xs : List AV) (vs : List Value) (a n : Int), vs.length = xs.length → (∀ i, i < xs.length → R g sz w (xs.getD i .bad) (vs.getD i undef)) → foldE f k a xs = some n → (vs.foldlM m2 (.int k a)).run P w = .ok (.int k n) w
  | [], vs, a, n, hl, _, h => by
    have : vs = [] := List.eq_nil_of_length_eq_zero (by simpa using hl)
    subst this
    simp only [foldE, Option.some.injEq] at h
    subst h; rfl
  | x :: r, [], a, n, hl, _, h => by simp at hl
  | x :: r, u :: vs, a, n, hl, hr, h => by
    cases x <;> simp only [foldE] at h <;> try (cases h; done)
    rename_i k' b
    have h0 := hr 0 (by simp)
    simp only [List.getD, List.getElem?_cons_zero, Option.getD_some] at h0
    obtain rfl := h0.int_inv
    simp only [List.foldlM_cons, Sem.run_bind, hm, Result.andThen_ok]
    exact foldE_run hm r vs _ n (by simpa using hl) (fun i hi => by have := hr (i + 1) (by simp; omega); simpa [List.getD] using this) h

theorem minmaxE_run {sz : Nat → Nat} {f : Int → Int → Int} {m2 : Value → Value → Sem Value} (hm : ∀ k k' a b, (m2 (.int k a) (.int k' b)).run P w = .ok (.int k (f a b)) w)
    {xs : List AV} {vs : Array Value} (hl : vs.size = xs.length) (hr : ∀ i, i < xs.length → R g sz w (xs.getD i .bad) (vs.getD i undef)) {v : AV} {e : Eff} (h : OT.Leaf v e (minmaxE f xs)) :
    ∃ k n u r, v = .int k n ∧ e = .no ∧ vs.toList = u :: r ∧ (r.foldlM m2 u).run P w = .ok (.int k n) w := by
  unfold minmaxE at h
  split at h
  · rename_i k a r
    split at h
    · rename_i n hn
      obtain ⟨rfl, rfl⟩ := h
      cases hv : vs.toList with
      | nil => have : vs.size = 0 := by rw [← Array.length_toList, hv]; rfl
               rw [this] at hl; simp at hl
      | cons u r' =>
        have hr' : ∀ i, i < r.length + 1 → R g sz w ((AV.int k a :: r).getD i .bad) ((u :: r').getD i undef) := fun i hi => by
          have := hr i (by simpa using hi)
          rwa [← arr_toList_getD, hv] at this
        have h0 := hr' 0 (by omega)
        simp only [List.getD, List.getElem?_cons_zero, Option.getD_some] at h0
        obtain rfl := h0.int_inv
        have hl2 : r'.length = r.length := by
          have : vs.toList.length = r.length + 1 := by simpa using hl
          rw [hv] at this; simpa using this
        exact ⟨k, n, _, r', rfl, rfl, rfl, foldE_run hm r r' a n hl2 (fun i hi => by have := hr' (i + 1) (by omega); simpa [List.getD] using this) hn⟩
    · exact h.elim
  · exact h.elim
end
end Go.EV
namespace Go.EV
open Go Go.RowKit
set_option linter.unusedSimpArgs false
set_option linter.unusedVariables false

/-! ### append -/
def isNilS : Value → Bool
  | .slice none 0 0 => true
  | _ => false
theorem isNilS_eq {x : Value} (h : isNilS x = true) : x = .slice none 0 0 := by
  unfold isNilS at h
  split at h
  · rfl
  · cases h

def appendE (τ : Ty) (L : Obs) (d : Option Nat) (t : TypeId) (x y : AV) : OT :=
  match τ t with
  | some ⟨.slice el, _⟩ =>
    match τ el with
    | some e =>
      match e.info.zero, d with
      | some z, some d =>
        bif Nat.beq (cellsA (ofV z)).length e.info.size && (Nat.blt 0 e.info.size && Nat.ble e.info.bytes 256) then
          srcE L e.info.size y fun m f2 => dstE L d e.info.size x m f2
        else .fail
      | _, _ => .fail
    | none => .fail
  | _ => .fail
where
  srcE (L : Obs) (size : Nat) (y : AV) (k : Nat → (Nat → Nat → AV) → OT) : OT :=
    match y with
    | .sl m w' f => bif Nat.beq w' size then k m f else .fail
    | .v yv => bif isNilS yv then k 0 (fun _ _ => .bad) else .fail
    | .osl s w' off len cap =>
      match L s with
      | some (.buf n w1 f) => bif Nat.beq w' size && Nat.beq w1 size then .req (off + cap = n ∧ off + len ≤ n) (k len fun i j => f (off + i) j) else .fail
      | _ => .fail
    | _ => .fail
  dstE (L : Obs) (d : Nat) (size : Nat) (x : AV) (m : Nat) (f2 : Nat → Nat → AV) : OT :=
    match x with
    | .v xv => bif isNilS xv then
        match L d with
        | none => .br (decide (m ≤ 549755813888)) (.val (.osl d size 0 m m) (.new d (.buf m size f2))) .fail
        | some _ => .fail
      else .fail
    | .osl s w' off len cap =>
      match L s with
      | some (.buf n w1 f) => bif Nat.beq w' size && (Nat.beq w1 size && Nat.beq off 0) then
          .req (cap = n ∧ len ≤ n) (.br (decide (len + m ≤ cap))
            (.val (.osl s w' 0 (len + m) cap) (.upd s (.buf n size fun i j => bif Nat.ble len i && Nat.blt i (len + m) then f2 (i - len) j else f i j)))
            (.br (decide (len + m ≤ 549755813888))
              (.val (.osl s w' 0 (len + m) (len + m)) (.upd s (.buf (len + m) size fun i j => bif Nat.blt i len then f i j else f2 (i - len) j))) .fail))
        else .fail
      | _ => .fail
    | _ => .fail

section
variable {P : Program} {g : G} {L : Obs} {w : World}

/-- What is put behind: where it lies. -/
def Src (S : Nat → Prop) (w : World) (m w' : Nat) (f : Nat → Nat → AV) (v : Value) : Prop :=
  ∃ a c, v = .slice a m c ∧ (0 < m → ∃ (b o : Nat) (news : List Value), a = some ⟨b, o, none⟩ ∧ news.length = m * w' ∧ (∀ j u, news[j]? = some u → w.cell? ((⟨b, o, none⟩ : Addr).add j) = some u) ∧
    (∀ u ∈ news, u.oneCell' = true) ∧ ∀ i j, i < m → j < w' → F S w (f i j) (news.getD (i * w' + j) undef))

theorem divmod {i j w : Nat} (h : j < w) : (i * w + j) / w = i ∧ (i * w + j) % w = j := by
  have hw : 0 < w := by omega
  constructor
  · rw [Nat.mul_comm, Nat.mul_add_div hw, Nat.div_eq_of_lt h]; omega
  · rw [Nat.mul_comm, Nat.mul_add_mod, Nat.mod_eq_of_lt h]

theorem in_row {i j m w : Nat} (hi : i < m) (hj : j < w) : i * w + j < m * w := by
  have : (i + 1) * w ≤ m * w := Nat.mul_le_mul_right _ hi
  rw [Nat.add_mul] at this; omega

theorem Src.of {S : Nat → Prop} {m w' : Nat} {f : Nat → Nat → AV} (hw : 0 < w') {a : Option Addr} {c : Nat} (h : 0 < m → ∃ (b o : Nat) (cc : Nat → Nat → Value), a = some ⟨b, o, none⟩ ∧
    (∀ i j, i < m → j < w' → w.cell? ⟨b, o + i * w' + j, none⟩ = some (cc i j)) ∧ (∀ i j, i < m → j < w' → F S w (f i j) (cc i j)) ∧ ∀ i j, i < m → j < w' → (cc i j).oneCell' = true) :
    Src S w m w' f (.slice a m c) := by
  refine ⟨a, c, rfl, fun hm => ?_⟩
  obtain ⟨b, o, cc, rfl, hc, hf, h1⟩ := h hm
  have hlt : ∀ k, k < m * w' → k / w' < m ∧ k % w' < w' := fun k hk => ⟨Nat.div_lt_of_lt_mul (by rw [Nat.mul_comm]; exact hk), Nat.mod_lt _ hw⟩
  refine ⟨b, o, (List.range (m * w')).map fun k => cc (k / w') (k % w'), rfl, by simp, fun j u hu => ?_, fun u hu => ?_, fun i j hi hj => ?_⟩
  · have hj : j < m * w' := by have := (List.getElem?_eq_some_iff.1 hu).1; simpa using this
    simp only [List.getElem?_map, List.getElem?_range hj, Option.map_some, Option.some.injEq] at hu
    obtain ⟨h2, h3⟩ := hlt j hj
    rw [Addr.add_at, ← hu, ← hc _ _ h2 h3]
    congr 2
    have := Nat.div_add_mod j w'
    rw [Nat.mul_comm] at this; omega
  · obtain ⟨k, hk, rfl⟩ := List.mem_map.1 hu
    obtain ⟨h2, h3⟩ := hlt k (List.mem_range.1 hk)
    exact h1 _ _ h2 h3
  · have hk := in_row hi hj
    have := divmod (i := i) hj
    simpa [List.getD, hk, this.1, this.2] using hf i j hi hj

theorem srcE_ok (hO : OR g L w) {size : Nat} (hsz : 0 < size) {y : AV} {b : Value} (hy : R g (szf L) w y b) {k : Nat → (Nat → Nat → AV) → OT} {v : AV} {e : Eff} (h : OT.Leaf v e (appendE.srcE L size y k)) :
    ∃ m f, Src g.S w m size f b ∧ OT.Leaf v e (k m f) := by
  unfold appendE.srcE at h
  split at h
  · rename_i m w' f
    cases hb : Nat.beq w' size with
    | false => rw [hb] at h; exact h.elim
    | true =>
      rw [hb] at h
      obtain rfl := Nat.eq_of_beq_eq_true hb
      obtain ⟨a', cap, rfl, hin⟩ := hy.sl_inv.sl_inv
      exact ⟨m, f, Src.of hsz fun hm => by
        obtain ⟨b, o, c, rfl, hS, hc, hf, h1⟩ := hin hm
        exact ⟨b, o, c, rfl, hc, hf, h1⟩, h⟩
  · rename_i yv
    cases hn : isNilS yv with
    | false => rw [hn] at h; exact h.elim
    | true =>
      rw [hn] at h
      obtain rfl := isNilS_eq hn
      obtain rfl := hy.v_inv
      exact ⟨0, _, ⟨none, 0, rfl, fun h => absurd h (by omega)⟩, h⟩
  · rename_i s w' off len cap
    split at h
    · rename_i n w1 f hs
      cases hb : (Nat.beq w' size && Nat.beq w1 size) with
      | false => rw [hb] at h; exact h.elim
      | true =>
        rw [hb] at h
        simp only [Bool.and_eq_true, Nat.beq_eq] at hb
        obtain ⟨rfl, rfl⟩ := hb
        obtain ⟨⟨he, hle⟩, h⟩ := h
        have hsz2 : szf L s = n := by simp [szf, hs, szOf]
        rcases osl_inv hy (by rw [hsz2]; exact he) with ⟨a', rfl, rfl, rfl, rfl⟩ | ⟨b, κ, hβ, rfl, hl, hκ, hc⟩
        · exact ⟨0, _, ⟨a', 0, rfl, fun h => absurd h (by omega)⟩, h⟩
        · refine ⟨len, _, Src.of hsz fun hm => ?_, h⟩
          rcases hO.ob s _ hs with h0 | ⟨b', κ', cs, T, hβ', hh, hn, hcs, hr⟩
          · omega
          rw [hβ] at hβ'; cases hβ'
          refine ⟨b, _, fun i j => cs.getD ((off + i) * w1 + j) undef, rfl, fun i j hi hj => ?_, fun i j hi hj => (hr _ j (by omega) hj).1, fun i j hi hj => (hr _ j (by omega) hj).2⟩
          have := cell_of hh (o := (off + i) * w1 + j) (by rw [hcs]; exact in_row (by omega) hj)
          rw [← this]
          congr 2
          rw [Nat.add_mul]
    · exact h.elim
  · exact h.elim

theorem run_append_zero {t ty el : TypeId} {i : TypeInfo} (ht : P.underlying t = some (.slice el)) (hi : P.info? el = some i) (base : Option Addr) (sLen sCap : Nat) (h : sLen ≤ sCap) (a : Option Addr) (c : Nat) :
    (Builtin.append_ #[t, t] ty #[.slice base sLen sCap, .slice a 0 c]).run P w = .ok (.slice base sLen sCap) w := by
  cases base <;> cases a <;> simp [Builtin.append_, run_underlying ht, sizeOf, typeInfo, hi, Builtin.lenOf, Builtin.firstCells, h, storeCells, loadCells, loadCellsFrom]

/-- An object of no length, without memory. -/
theorem Stp.ghost (hO : OR g L w) {s : Nat} (hs : L s = none) (w1 : Nat) (f : Nat → Nat → AV) : Stp g L w g ((Eff.new s (.buf 0 w1 f)).app L) w := by
  have hn := hO.none_of hs
  refine Stp.one hO s rfl rfl rfl (Nat.le_refl _) (fun _ _ => rfl) (fun i hi => upd1_ne _ _ hi) rfl (fun _ _ _ => rfl) (fun b κ h => by rw [hn] at h; cases h) (.inl hs) ?_
  intro hm o ho
  have : o = .buf 0 w1 f := by simpa [app_new, upd1_self] using ho.symm
  subst this
  exact .inl rfl

theorem drew_Mo (g : G) (sz : Nat → Nat) (w : World) : Mo g sz w g sz w.drew := ⟨fun _ h => h, fun _ _ _ => rfl, fun _ => .inr (.inl ⟨rfl, rfl⟩)⟩
theorem drew_OR (hO : OR g L w) : OR g L w.drew := ⟨fun s o ho => (hO.ob s o ho).mono (drew_Mo g _ w) rfl (fun _ _ _ => rfl), hO.own, hO.inj, hO.fz⟩
theorem drew_Fr (g : G) (w : World) : Fr g w g w.drew := ⟨rfl, rfl, rfl, Nat.le_refl _, fun _ _ _ => rfl, fun _ h => h, fun _ h => .inl h, fun _ h => .inl h⟩
theorem Stp.of_drew {g' : G} {L' : Obs} {w' : World} (h : Stp g L w.drew g' L' w') : Stp g L w g' L' w' :=
  ⟨h.o, (drew_Fr g w).trans h.f, ⟨h.m.S, h.m.cell, h.m.st⟩, h.k⟩
theorem F.drew {S : Nat → Prop} {x : AV} {v : Value} (h : F S w x v) : F S w.drew x v := F.mono (w := w) (w' := w.drew) (fun _ h => h) (fun _ _ _ => rfl) h

theorem news_getD (olds news : List Value) (rest : Array Value) (k : Nat) (h : k < olds.length + news.length) :
    (olds.toArray ++ news.toArray ++ rest).getD k undef = if k < olds.length then olds.getD k undef else news.getD (k - olds.length) undef := by
  rw [← arr_toList_getD]
  simp only [Array.toList_append, List.getD, List.toList_toArray, List.append_assoc]
  split
  · rw [List.getElem?_append_left (by assumption)]
  · rw [List.getElem?_append_right (by omega), List.getElem?_append_left (by omega)]

theorem one_news {news : List Value} {k : Nat} (h1 : ∀ u ∈ news, u.oneCell' = true) (hk : k < news.length) : (news.getD k undef).oneCell' = true := by
  have := h1 _ (List.getElem_mem hk)
  simpa [List.getD, hk] using this

theorem appendE_ok (hO : OR g L w) {τ : Ty} (hτ : TyOK P τ) {d : Option Nat} {t ty : TypeId} {x y : AV} {a b : Value} (hx : R g (szf L) w x a) (hy : R g (szf L) w y b) {v : AV} {e : Eff}
    (h : OT.Leaf v e (appendE τ L d t x y)) : Shows P g L w (Builtin.append_ #[t, t] ty #[a, b]) v e := by
  unfold appendE at h
  split at h
  case h_2 => exact h.elim
  rename_i el inf ht
  split at h
  case h_2 => exact h.elim
  rename_i et het
  split at h
  case h_2 => exact h.elim
  rename_i z d hz
  have hu := (hτ t _ ht).u
  have hi := (hτ _ _ het).i
  cases hb : (Nat.beq (cellsA (ofV z)).length et.info.size && (Nat.blt 0 et.info.size && Nat.ble et.info.bytes 256)) with
  | false => rw [hb] at h; exact h.elim
  | true =>
  rw [hb] at h
  simp only [Bool.and_eq_true, Nat.beq_eq, Nat.ble_eq, Nat.blt_eq] at hb
  obtain ⟨hb1, hb2, hb3⟩ := hb
  have hzs : z.cells.size = et.info.size := (ofV_cells (g := g) (L := L) (w := w) z).1.trans hb1
  simp only [cond_true] at h
  obtain ⟨m, f2, ⟨sa, sc, rfl, hsrc⟩, hd2⟩ := srcE_ok hO hb2 hy h
  clear h
  have h := hd2; clear hd2
  unfold appendE.dstE at h
  have bnd : ∀ {n : Nat}, n ≤ 549755813888 → n * et.info.bytes ≤ 140737488355328 := fun {n} hn => by
    have := Nat.mul_le_mul hn hb3; omega
  split at h
  case h_3 => exact h.elim
  case h_1 xv =>
    cases hn : isNilS xv with
    | false => rw [hn] at h; exact h.elim
    | true =>
    rw [hn] at h
    obtain rfl := isNilS_eq hn
    obtain rfl := hx.v_inv
    simp only [cond_true] at h
    split at h
    · rename_i hd
      simp only [Leaf.br, Leaf.fail, Leaf.val, and_false, or_false, decide_eq_true_eq] at h
      obtain ⟨hm, rfl, rfl⟩ := h
      have hsz : szf ((Eff.new d (.buf m et.info.size f2)).app L) d = m := by simp [szf, app_new, upd1_self, szOf]
      rcases Nat.eq_zero_or_pos m with rfl | hm0
      · exact ⟨_, w, g, run_append_zero hu hi none 0 0 (Nat.le_refl _) sa sc, .osl0 _ _ _ hsz, Stp.ghost hO hd _ _⟩
      · obtain ⟨b, o, news, rfl, hl, hn, h1, hF⟩ := hsrc hm0
        have hrun := run_append_nil (P := P) w t ty el et.info z hu hi hz ⟨b, o, none⟩ m sc news hl hn hm0 (by omega) (by have := bnd hm; omega)
        have hge := grownCap_ge w m 0 el
        have hst := Stp.buf (drew_OR hO) hd m (grownCap w m 0 el) et.info.size f2 (news.toArray ++ Builtin.zeroCells z.cells (grownCap w m 0 el - m)) el hge
          (by simp [size_zeroCells, hzs, hl, ← Nat.add_mul]; congr 1; omega)
          (fun i j hi hj => by
            have hk := in_row hi hj
            have e := news_getD [] news (Builtin.zeroCells z.cells (grownCap w m 0 el - m)) (i * et.info.size + j) (by simp [hl]; exact hk)
            simp at e
            have e2 : (news.toArray ++ Builtin.zeroCells z.cells (grownCap w m 0 el - m)).getD (i * et.info.size + j) undef = news.getD (i * et.info.size + j) undef := by simpa [List.getD] using e
            rw [e2]
            exact ⟨(hF i j hi hj).drew, one_news h1 (by rw [hl]; exact hk)⟩)
        refine ⟨_, _, _, hrun, ?_, hst.of_drew⟩
        have := R.osl (g := g.at d w.heap.size (grownCap w m 0 el)) (sz := szf ((Eff.new d (.buf m et.info.size f2)).app L)) (w := w.drew.alloc (.cells (news.toArray ++ Builtin.zeroCells z.cells (grownCap w m 0 el - m)) el)) d et.info.size 0 m m w.heap.size (grownCap w m 0 el)
          (upd1_self _ _ _) (by rw [hsz]; omega) (Nat.le_refl _) (by rw [hsz]; exact hge) hm0
        simpa using this
    · exact h.elim
  case h_2 s w' off len cap =>
    split at h
    case h_2 => exact h.elim
    case h_1 n w1 f hs =>
      cases hb4 : (Nat.beq w' et.info.size && (Nat.beq w1 et.info.size && Nat.beq off 0)) with
      | false => rw [hb4] at h; exact h.elim
      | true =>
      rw [hb4] at h
      simp only [Bool.and_eq_true, Nat.beq_eq] at hb4
      obtain ⟨rfl, rfl, rfl⟩ := hb4
      simp only [cond_true] at h
      obtain ⟨⟨rfl, hln⟩, h⟩ := h
      have hsz : szf L s = cap := by simp [szf, hs, szOf]
      simp only [Leaf.br, Leaf.fail, Leaf.val, and_false, or_false, decide_eq_true_eq, decide_eq_false_iff_not] at h
      rcases osl_inv hx (by rw [hsz]; omega) with ⟨a', _, rfl, rfl, rfl⟩ | ⟨b, κ, hβ, rfl, hl, hκ, hc⟩
      · -- no memory yet
        rcases h with ⟨hle, rfl, rfl⟩ | ⟨hgt, hm, rfl, rfl⟩
        · obtain rfl : m = 0 := by omega
          refine ⟨_, w, g, run_append_zero hu hi a' 0 0 (Nat.le_refl _) sa sc, .osl0 _ _ _ (by simp [szf, app_upd, upd1_self, szOf]), ?_⟩
          refine Stp.one hO s rfl rfl rfl (Nat.le_refl _) (fun _ _ => rfl) (fun i hi => upd1_ne _ _ hi) rfl (fun _ _ _ => rfl) (fun b κ h => ?_) (.inr ⟨by simp [app_upd, upd1_self], .inl ⟨by simp [szf, app_upd, upd1_self, szOf, hs], rfl⟩⟩) ?_
          · exact ⟨by simp [app_upd, upd1_self], (hO.own s b κ h).2.1, .inr ⟨κ, h⟩⟩
          · intro _ o ho
            rw [app_upd, upd1_self] at ho; cases ho; exact .inl rfl
        · have hm0 : 0 < m := by omega
          obtain ⟨b, o, news, rfl, hl, hn, h1, hF⟩ := hsrc hm0
          simp only [Nat.zero_add] at hm ⊢
          have hge := grownCap_ge w m 0 el
          have hsz2 : szf ((Eff.upd s (.buf m et.info.size fun i j => bif Nat.blt i 0 then f i j else f2 (i - 0) j)).app L) s = m := by simp [szf, app_upd, upd1_self, szOf]
          have hst := Stp.grow (drew_OR hO) m (grownCap w m 0 el) et.info.size (fun i j => bif Nat.blt i 0 then f i j else f2 (i - 0) j) (news.toArray ++ Builtin.zeroCells z.cells (grownCap w m 0 el - m)) el (s := s) (by rw [hsz]; exact hm0) hge
            (by simp [size_zeroCells, hzs, hl, ← Nat.add_mul]; congr 1; omega)
            (fun i j hi hj => by
              have hk := in_row hi hj
              have e := news_getD [] news (Builtin.zeroCells z.cells (grownCap w m 0 el - m)) (i * et.info.size + j) (by simp [hl]; exact hk)
              simp at e
              have e2 : (news.toArray ++ Builtin.zeroCells z.cells (grownCap w m 0 el - m)).getD (i * et.info.size + j) undef = news.getD (i * et.info.size + j) undef := by simpa [List.getD] using e
              rw [e2]
              exact ⟨(hF i j hi hj).drew, one_news h1 (by rw [hl]; exact hk)⟩)
          have hR := R.osl (g := g.at s w.heap.size (grownCap w m 0 el)) (sz := szf ((Eff.upd s (.buf m et.info.size fun i j => bif Nat.blt i 0 then f i j else f2 (i - 0) j)).app L)) (w := w.drew.alloc (.cells (news.toArray ++ Builtin.zeroCells z.cells (grownCap w m 0 el - m)) el)) s et.info.size 0 m m w.heap.size (grownCap w m 0 el)
            (upd1_self _ _ _) (by rw [hsz2]; omega) (Nat.le_refl _) (by rw [hsz2]; exact hge) hm0
          cases a' with
          | none =>
            have hrun := run_append_nil (P := P) w t ty el et.info z hu hi hz ⟨b, o, none⟩ m sc news hl hn hm0 (by omega) (by have := bnd hm; omega)
            exact ⟨_, _, _, hrun, by simpa using hR, hst.of_drew⟩
          | some a' =>
            have hrun := run_append_grow (P := P) w t ty el et.info z hu hi hz a' 0 0 [] (by simp) (by simp) ⟨b, o, none⟩ m sc news hl hn (by omega) (by omega) (growslice_fits (by omega) (by simpa using bnd hm))
            simp only [Nat.zero_add, List.nil_append, Array.empty_append] at hrun
            exact ⟨_, _, _, hrun, by simpa using hR, hst.of_drew⟩
      · -- memory of its own
        simp only [Nat.zero_mul, Nat.sub_zero] at hx ⊢
        rcases hO.ob s _ hs with h0 | ⟨b', κ', cs, T, hβ', hh, hn, hcs, hr⟩
        · omega
        rw [hβ] at hβ'; cases hβ'
        rw [hsz] at hκ
        -- in place: the same block
        have inplace : len + m ≤ κ → ∀ (n' : Nat) (F' : Nat → Nat → AV), szf L s ≤ n' → len + m ≤ n' → n' ≤ κ → (n' ≤ cap ∨ n' = len + m) →
            (∀ i j, i < n' → j < et.info.size → (i < len → F' i j = f i j) ∧ (len ≤ i → i < len + m → F' i j = f2 (i - len) j) ∧ (len + m ≤ i → F' i j = f i j)) →
            Shows P g L w (Builtin.append_ #[t, t] ty #[.slice (some ⟨b, 0, none⟩) len κ, .slice sa m sc]) (.osl s et.info.size 0 (len + m) n') (.upd s (.buf n' et.info.size F')) := by
          intro hroom n' F' hszn hle hn' hcase hF'
          have hsz2 : szf ((Eff.upd s (.buf n' et.info.size F')).app L) s = n' := by simp [szf, app_upd, upd1_self, szOf]
          have hR : ∀ w2, R g (szf ((Eff.upd s (.buf n' et.info.size F')).app L)) w2 (.osl s et.info.size 0 (len + m) n') (.slice (some ⟨b, 0, none⟩) (len + m) κ) := fun w2 => by
            have := R.osl (g := g) (sz := szf ((Eff.upd s (.buf n' et.info.size F')).app L)) (w := w2) s et.info.size 0 (len + m) n' b κ hβ (by rw [hsz2]; omega) hle (by rw [hsz2]; exact hn') (by omega)
            simpa using this
          rcases Nat.eq_zero_or_pos m with rfl | hm0
          · refine ⟨_, w.setRow b cs, g, ?_, hR _, ?_⟩
            · rw [setRow_self w b cs T _ hh]; exact run_append_zero hu hi _ len κ (by omega) sa sc
            · refine Stp.write hO hβ _ _ (by rw [hsz]; simp only [szOf]; omega) fun hm => .inr ⟨b, κ, cs, T, hβ, setRow_heap w b cs _ T _ hh, hn', hcs, fun i j hi hj => ?_⟩
              obtain ⟨c1, c2, c3⟩ := hF' i j hi hj
              have e : F' i j = f i j := by
                by_cases hil : i < len
                · exact c1 hil
                · exact c3 (by omega)
              rw [e]
              exact ⟨(hr i j (by omega) hj).1.mono hm.S hm.cell, (hr i j (by omega) hj).2⟩
          · obtain ⟨sb, o, news, rfl, hl, hnw, h1, hF⟩ := hsrc hm0; clear hsrc
            have hfit : len * et.info.size + news.length ≤ cs.size := by rw [hl, hcs, ← Nat.add_mul]; exact Nat.mul_le_mul_right _ hroom
            have hfc := run_firstCells_some (P := P) w et.info.size m ⟨sb, o, none⟩ m sc news hl hnw
            have hstc := run_storeCells_at P b (len * et.info.size) T news 0 cs w hh (by simpa using hfit) h1
            simp only [Nat.add_zero] at hstc
            have hrun : (Builtin.append_ #[t, t] ty #[.slice (some ⟨b, 0, none⟩) len κ, .slice (some ⟨sb, o, none⟩) m sc]).run P w =
                .ok (.slice (some ⟨b, 0, none⟩) (len + m) κ) (w.setRow b (cs.toList.take (len * et.info.size) ++ news ++ cs.toList.drop (len * et.info.size + news.length)).toArray) := by
              simp [Builtin.append_, run_underlying hu, sizeOf, typeInfo, hi, Builtin.lenOf, hroom, hfc, Addr.add_at, hstc]
            refine ⟨_, _, g, hrun, hR _, Stp.write hO hβ _ _ (by rw [hsz]; simp only [szOf]; omega) fun hm => ?_⟩
            refine .inr ⟨b, κ, _, T, hβ, setRow_heap w b cs _ T _ hh, hn', by simp; omega, fun i j hi hj => ?_⟩
            have e3 : ((cs.toList.take (len * et.info.size) ++ news ++ cs.toList.drop (len * et.info.size + news.length)).toArray).getD (i * et.info.size + j) undef =
                if len * et.info.size ≤ i * et.info.size + j ∧ i * et.info.size + j < len * et.info.size + news.length then news.getD (i * et.info.size + j - len * et.info.size) undef else cs.getD (i * et.info.size + j) undef := by
              rw [← arr_toList_getD, List.toList_toArray, getD_seg undef cs.toList _ news (by simpa using hfit)]
              simp [arr_toList_getD]
            rw [e3]
            obtain ⟨c1, c2, c3⟩ := hF' i j hi hj
            by_cases hil : i < len
            · rw [c1 hil, if_neg (by have := in_row hil hj; omega)]
              exact ⟨(hr i j (by omega) hj).1.mono hm.S hm.cell, (hr i j (by omega) hj).2⟩
            · have h4 : len * et.info.size ≤ i * et.info.size := Nat.mul_le_mul_right _ (by omega)
              by_cases him : i < len + m
              · have h5 := in_row (i := i - len) (m := m) (by omega) hj
                have h6 : i * et.info.size + j - len * et.info.size = (i - len) * et.info.size + j := by rw [Nat.sub_mul]; omega
                rw [c2 (by omega) him, if_pos ⟨by omega, by omega⟩, h6]
                exact ⟨(hF _ j (by omega) hj).mono hm.S hm.cell, one_news h1 (by omega)⟩
              · have h7 : (len + m) * et.info.size ≤ i * et.info.size := Nat.mul_le_mul_right _ (by omega)
                rw [Nat.add_mul] at h7
                rw [c3 (by omega), if_neg (by omega)]
                exact ⟨(hr i j (by omega) hj).1.mono hm.S hm.cell, (hr i j (by omega) hj).2⟩
        rcases h with ⟨hle, rfl, rfl⟩ | ⟨hgt, hm, rfl, rfl⟩
        · refine inplace (by omega) cap _ (by omega) hle hκ (.inl (Nat.le_refl _)) fun i j hi hj => ⟨fun h => ?_, fun h h' => ?_, fun h => ?_⟩
          · have : (Nat.ble len i && Nat.blt i (len + m)) = false := by rw [Bool.eq_false_iff]; intro hh; simp only [Bool.and_eq_true, Nat.ble_eq, Nat.blt_eq] at hh; omega
            rw [this]; rfl
          · have : (Nat.ble len i && Nat.blt i (len + m)) = true := by simp only [Bool.and_eq_true, Nat.ble_eq, Nat.blt_eq]; exact ⟨h, h'⟩
            rw [this]; rfl
          · have : (Nat.ble len i && Nat.blt i (len + m)) = false := by rw [Bool.eq_false_iff]; intro hh; simp only [Bool.and_eq_true, Nat.ble_eq, Nat.blt_eq] at hh; omega
            rw [this]; rfl
        · by_cases hroom : len + m ≤ κ
          · refine inplace hroom (len + m) _ (by omega) (Nat.le_refl _) hroom (.inr rfl) fun i j hi hj => ⟨fun h => ?_, fun h h' => ?_, fun h => absurd hi (by omega)⟩
            · have : Nat.blt i len = true := Nat.blt_eq.mpr h
              rw [this]; rfl
            · have : Nat.blt i len = false := by rw [Bool.eq_false_iff]; intro hh; have := Nat.blt_eq.mp hh; omega
              rw [this]; rfl
          · have hm0 : 0 < m := by omega
            obtain ⟨sb, o, news, rfl, hl2, hnw, h1, hF⟩ := hsrc hm0; clear hsrc inplace
            have hge := grownCap_ge w (len + m) κ el
            have holdl : (cs.toList.take (len * et.info.size)).length = len * et.info.size := by
              have : len * et.info.size ≤ κ * et.info.size := Nat.mul_le_mul_right _ (by omega)
              rw [List.length_take, Array.length_toList, hcs]; exact Nat.min_eq_left this
            have holds : ∀ j u, (cs.toList.take (len * et.info.size))[j]? = some u → w.cell? ((⟨b, 0, none⟩ : Addr).add j) = some u := by
              intro j u hu'
              rw [Addr.add_at, Nat.zero_add]
              rw [List.getElem?_take] at hu'
              split at hu'
              · simp only [World.cell?, hh]; simpa using hu'
              · cases hu'
            have hrun := run_append_grow (P := P) w t ty el et.info z hu hi hz ⟨b, 0, none⟩ len κ (cs.toList.take (len * et.info.size)) holdl holds ⟨sb, o, none⟩ m sc news hl2 hnw (by omega) (by omega) (growslice_fits (by omega) (bnd hm))
            have hsz2 : szf ((Eff.upd s (.buf (len + m) et.info.size fun i j => bif Nat.blt i len then f i j else f2 (i - len) j)).app L) s = len + m := by simp [szf, app_upd, upd1_self, szOf]
            have hst := Stp.grow (drew_OR hO) (len + m) (grownCap w (len + m) κ el) et.info.size (fun i j => bif Nat.blt i len then f i j else f2 (i - len) j)
              ((cs.toList.take (len * et.info.size)).toArray ++ news.toArray ++ Builtin.zeroCells z.cells (grownCap w (len + m) κ el - (len + m))) el (s := s) (by rw [hsz]; omega) hge
              (by
                have e : grownCap w (len + m) κ el = len + m + (grownCap w (len + m) κ el - (len + m)) := by omega
                simp only [Array.size_append, List.size_toArray, size_zeroCells, hzs, holdl, hl2, ← Nat.add_mul]
                rw [← e])
              (fun i j hi hj => by
                have hk := in_row hi hj
                rw [news_getD _ _ _ _ (by rw [holdl, hl2, ← Nat.add_mul]; exact hk), holdl]
                by_cases hil : i < len
                · have : Nat.blt i len = true := Nat.blt_eq.mpr hil
                  have h8 := in_row hil hj
                  rw [if_pos h8, this]
                  have e5 : (cs.toList.take (len * et.info.size)).getD (i * et.info.size + j) undef = cs.getD (i * et.info.size + j) undef := by
                    rw [← arr_toList_getD]; simp [List.getD, List.getElem?_take, h8]
                  rw [e5]
                  exact ⟨(hr i j (by omega) hj).1.drew, (hr i j (by omega) hj).2⟩
                · have : Nat.blt i len = false := by rw [Bool.eq_false_iff]; intro hh; have := Nat.blt_eq.mp hh; omega
                  have h4 : len * et.info.size ≤ i * et.info.size := Nat.mul_le_mul_right _ (by omega)
                  have h6 : i * et.info.size + j - len * et.info.size = (i - len) * et.info.size + j := by rw [Nat.sub_mul]; omega
                  have h5 := in_row (i := i - len) (m := m) (by omega) hj
                  rw [if_neg (by omega), this, h6]
                  exact ⟨(hF _ j (by omega) hj).drew, one_news h1 (by omega)⟩)
            refine ⟨_, _, _, hrun, ?_, hst.of_drew⟩
            have := R.osl (g := g.at s w.heap.size (grownCap w (len + m) κ el)) (sz := szf ((Eff.upd s (.buf (len + m) et.info.size fun i j => bif Nat.blt i len then f i j else f2 (i - len) j)).app L))
              (w := w.drew.alloc (.cells ((cs.toList.take (len * et.info.size)).toArray ++ news.toArray ++ Builtin.zeroCells z.cells (grownCap w (len + m) κ el - (len + m))) el)) s et.info.size 0 (len + m) (len + m) w.heap.size (grownCap w (len + m) κ el)
              (upd1_self _ _ _) (by rw [hsz2]; omega) (Nat.le_refl _) (by rw [hsz2]; exact hge) (by omega)
            simpa using this
end
end Go.EV
namespace Go.EV
open Go Go.RowKit
set_option linter.unusedSimpArgs false
set_option linter.unusedVariables false

/-! ### equality by type -/
def partA (i : TI) (xs : List AV) (off : Nat) : Option AV :=
  bif Nat.ble (off + i.nn) xs.length then
    bif isAggD i.desc then some (.agg ((xs.drop off).take i.info.size)) else some (xs.getD off .bad)
  else none
def andO : Option Bool → Option Bool → Option Bool
  | some a, some b => some (a && b)
  | _, _ => none
def eqGo (τ : Ty) (E : TypeId → AV → AV → Option Bool) (xs ys : List AV) : List Field → Option Bool
  | [] => some true
  | f :: r => bif decide (f.name = "_") then none else
    match τ f.type with
    | some i => match partA i xs f.offset, partA i ys f.offset with
      | some a, some b => andO (E f.type a b) (eqGo τ E xs ys r)
      | _, _ => none
    | none => none
def eqE (τ : Ty) : Nat → TypeId → AV → AV → Option Bool
  | 0, _, _, _ => none
  | D + 1, t, x, y =>
    match τ t, x, y with
    | some ⟨.bool, _⟩, .bool a, .bool b => some (a == b)
    | some ⟨.int _, _⟩, .int k a, .int k' b => bif decide (k = k') then some (decide (a = b)) else none
    | some ⟨.string, _⟩, .str a, .str b => some (decide (a = b))
    | some ⟨.struct fs, _⟩, .agg xs, .agg ys => eqGo τ (eqE τ D) xs ys fs.toList
    | _, _, _ => none

section
variable {P : Program} {g : G} {sz : Nat → Nat} {w : World}

theorem partA_ok {t : TypeId} {i : TI} (ht : TyAt P t i) {xs : List AV} {cs : Array Value} {off : Nat} (hl : cs.size = xs.length)
    (hr : ∀ i, i < xs.length → R g sz w (xs.getD i .bad) (cs.getD i undef)) {v : AV} (h : partA i xs off = some v) :
    ∃ u, (part t cs off).run P w = .ok u w ∧ R g sz w v u := by
  unfold partA at h
  cases hb : Nat.ble (off + i.nn) xs.length with
  | false => rw [hb] at h; cases h
  | true =>
    rw [hb] at h
    have hb := Nat.ble_eq.mp hb
    unfold TI.nn at hb
    cases hA : isAggD i.desc with
    | true =>
      rw [hA] at h hb
      have h : some (AV.agg ((xs.drop off).take i.info.size)) = some v := h
      have hb : off + i.info.size ≤ xs.length := hb
      cases h
      refine ⟨.agg (cs.extract off (off + i.info.size)), ?_, .agg _ _ (by simp; omega) fun j hj => ?_⟩
      · simp [part, run_isAgg ht, hA, run_size ht]
      · have hj : j < i.info.size := by simp at hj; omega
        have := hr (off + j) (by omega)
        have e1 : ((xs.drop off).take i.info.size).getD j .bad = xs.getD (off + j) .bad := by simp [List.getD, hj]
        have e2 : (cs.extract off (off + i.info.size)).getD j undef = cs.getD (off + j) undef := by
          have h1 : j < (cs.extract off (off + i.info.size)).size := by simp; omega
          have h2 : off + j < cs.size := by omega
          simp only [Array.getD_eq_getD_getElem?, Array.getElem?_eq_getElem h1, Array.getElem?_eq_getElem h2, Option.getD_some, Array.getElem_extract]
        rw [e1, e2]; exact this
    | false =>
      rw [hA] at h hb
      have h : some (xs.getD off AV.bad) = some v := h
      have hb : off + 1 ≤ xs.length := hb
      cases h
      have hlt : off < cs.size := by omega
      exact ⟨cs.getD off undef, by simp [part, run_isAgg ht, hA, hlt], hr off (by omega)⟩

theorem eqE_ok {τ : Ty} (hτ : TyOK P τ) : ∀ (D d : Nat) (t : TypeId) (x y : AV) (u v : Value) (b : Bool), eqE τ D t x y = some b → R g sz w x u → R g sz w y v → (Op.equalIn (d + D) t u v).run P w = .ok b w
  | 0, d, t, x, y, u, v, b, h, _, _ => by simp [eqE] at h
  | D + 1, d, t, x, y, u, v, b, h, hx, hy => by
    have ih := eqE_ok hτ D d
    simp only [eqE] at h
    split at h
    · rename_i a c ht
      obtain rfl := hx.bool_inv; obtain rfl := hy.bool_inv
      cases h
      exact run_equalIn_bool' w (d + D) t a c (hτ t _ ht).u
    · rename_i q inf k a k' c ht
      obtain rfl := hx.int_inv; obtain rfl := hy.int_inv
      cases hk : decide (k = k') with
      | false => rw [hk] at h; cases h
      | true =>
        rw [hk] at h
        obtain rfl := of_decide_eq_true hk
        cases h
        have := run_equalIn_int (P := P) w (d + D) t k q a c (hτ t _ ht).u
        rw [show (decide (a = c)) = (a == c) from by rw [Bool.eq_iff_iff]; simp]
        exact this
    · rename_i a c ht
      obtain rfl := hx.str_inv; obtain rfl := hy.str_inv
      cases h
      have := run_equalIn_string (P := P) w (d + D) t a c (hτ t _ ht).u
      rw [← toList_beq]; exact this
    · rename_i fs inf xs ys ht
      obtain ⟨cs, rfl, hl, hr⟩ := hx.agg_inv
      obtain ⟨ds, rfl, hl2, hr2⟩ := hy.agg_inv
      have hu := (hτ t _ ht).u
      have hfs : P.fieldsOf t = fs := by simp [Program.fieldsOf, hu]
      rw [show d + (D + 1) = (d + D) + 1 from rfl, run_equalIn_struct w (d + D) t cs ds (by rw [hfs]; exact hu) ((hτ t _ ht).q rfl).1, hfs]
      have key : ∀ (l : List Field) (b : Bool), eqGo τ (eqE τ D) xs ys l = some b → (Op.eqFields (d + D) cs ds l).run P w = .ok b w := by
        intro l
        induction l with
        | nil => intro b h; simp only [eqGo, Option.some.injEq] at h; subst h; simp [Op.eqFields]
        | cons f r ihl =>
          intro b h
          simp only [eqGo] at h
          cases hn : decide (f.name = "_") with
          | true => rw [hn] at h; cases h
          | false =>
          rw [hn] at h
          simp only [cond_false] at h
          have hn := of_decide_eq_false hn
          split at h
          · rename_i i hi
            split at h
            · rename_i a c ha hc
              obtain ⟨va, ra, Ra⟩ := partA_ok (hτ _ _ hi) hl hr ha
              obtain ⟨vc, rc, Rc⟩ := partA_ok (hτ _ _ hi) hl2 hr2 hc
              cases h1 : eqE τ D f.type a c with
              | none => rw [h1] at h; simp [andO] at h
              | some p =>
                cases h2 : eqGo τ (eqE τ D) xs ys r with
                | none => rw [h1, h2] at h; simp [andO] at h
                | some q =>
                  rw [h1, h2] at h
                  simp only [andO, Option.some.injEq] at h
                  subst h
                  have e1 := ih _ _ _ _ _ _ h1 Ra Rc
                  have e2 := ihl _ h2
                  simp only [Op.eqFields, ne_eq, hn, not_false_eq_true, if_true, Sem.run_bind, ra, rc, e1, Result.andThen_ok]
                  cases p
                  · simp
                  · simpa using e2
            · cases h
          · cases h
      exact key _ _ h
    · cases h
end

def isNilP : Value → Bool
  | .pointer none => true
  | _ => false
theorem isNilP_eq {z : Value} (h : isNilP z = true) : z = .pointer none := by
  unfold isNilP at h
  split at h
  · rfl
  · cases h
def binAE (τ : Ty) (L : Obs) (op : BinOp) (t : TypeId) (x y : AV) : OT :=
  match x, y with
  | .agg xs, .agg ys => match τ t with
    | some i => bif isAggD i.desc then match eqE τ 10 t (.agg xs) (.agg ys) with
      | some b => eqBool op b
      | none => .fail
      else .fail
    | none => .fail
  | .ref s _ _ _ ep, .v z => match τ t with
    | some ⟨.pointer _, _⟩ => bif isNilP z then refOK L s ep (eqBool op false) else .fail
    | _ => .fail
  | .fp _ _, .v z => match τ t with
    | some ⟨.pointer _, _⟩ => bif isNilP z then eqBool op false else .fail
    | _ => .fail
  | _, _ => binE τ op t x y

theorem nilP_ok {P : Program} {g : G} {L : Obs} {w : World} (hO : OR g L w) {op : BinOp} {t el : TypeId} {ox oy : Operand} {v : AV} {e : Eff} {a : Addr} (ht : P.underlying t = some (.pointer el))
    (h : OT.Leaf v e (eqBool op false)) : Shows P g L w (do eqGuard op t ox oy (.pointer (some a)) (.pointer none); binOp op t (.pointer (some a)) (.pointer none)) v e := by
  have hrun : (Op.equal t (.pointer (some a)) (.pointer none)).run P w = .ok false w := by
    have key : ∀ d, (Op.equalIn (d + 1) t (.pointer (some a)) (.pointer none)).run P w = .ok false w := fun d => by simp [Op.equalIn, run_underlying ht]
    exact key 9999
  have hg : (eqGuard op t ox oy (.pointer (some a)) (.pointer none)).run P w = .ok () w := by
    unfold eqGuard; cases op <;> rfl
  cases op <;> simp only [eqBool, Leaf.fail, Leaf.val] at h <;> try exact h.elim
  all_goals
    obtain ⟨rfl, rfl⟩ := h
    refine Shows.pure hO _ ?_ (R.bool _)
    simp only [binOp, Sem.run_bind, hg, hrun, Result.andThen_ok, Sem.run_pure]
theorem binAE_ok {P : Program} {g : G} {L : Obs} {w : World} (hO : OR g L w) {τ : Ty} (hτ : TyOK P τ) {op : BinOp} {t : TypeId} {x y : AV} {ox oy : Operand} {v : AV} {e : Eff} {a b : Value} (hx : R g (szf L) w x a) (hy : R g (szf L) w y b)
    (h : OT.Leaf v e (binAE τ L op t x y)) (hplain : OT.Leaf v e (binE τ op t x y) → (eqGuard op t ox oy a b).run P w = .ok () w) : Shows P g L w (do eqGuard op t ox oy a b; binOp op t a b) v e := by
  unfold binAE at h
  split at h
  · rename_i xs ys
    split at h
    · rename_i i hi
      cases hA : isAggD i.desc with
      | false => rw [hA] at h; exact h.elim
      | true =>
      rw [hA] at h
      simp only [cond_true] at h
      split at h
      · rename_i r hr
        have hrun : (Op.equal t a b).run P w = .ok r w := eqE_ok hτ 10 9990 t _ _ a b r hr hx hy
        obtain ⟨cs, rfl, _, _⟩ := hx.agg_inv
        obtain ⟨ds, rfl, _, _⟩ := hy.agg_inv
        have hq := ((hτ t _ hi).q hA).2
        have hg : (eqGuard op t ox oy (.agg cs) (.agg ds)).run P w = .ok () w := run_eqGuard_agg w op t ox oy cs ds hq
        cases op <;> simp only [eqBool, Leaf.fail, Leaf.val] at h <;> try exact h.elim
        all_goals
          obtain ⟨rfl, rfl⟩ := h
          refine Shows.pure hO _ ?_ (R.bool _)
          simp only [binOp, Sem.run_bind, hg, hrun, Result.andThen_ok, Sem.run_pure]
      · exact h.elim
    · exact h.elim
  · rename_i s w' i off ep z
    split at h
    · rename_i el inf ht
      cases hz : isNilP z with
      | false => rw [hz] at h; exact h.elim
      | true =>
      rw [hz] at h
      obtain rfl := isNilP_eq hz
      obtain rfl := hy.v_inv
      obtain ⟨he, h⟩ := refOK_leaf h
      obtain ⟨b, κ, hβ, rfl⟩ := ref_inv hx he
      exact nilP_ok hO (hτ t _ ht).u h
    · exact h.elim
  · rename_i w' f z
    split at h
    · rename_i el inf ht
      cases hz : isNilP z with
      | false => rw [hz] at h; exact h.elim
      | true =>
      rw [hz] at h
      obtain rfl := isNilP_eq hz
      obtain rfl := hy.v_inv
      obtain ⟨b, o, c, rfl, _⟩ := hx.fp_inv.fp_inv
      exact nilP_ok hO (hτ t _ ht).u h
    · exact h.elim
  · obtain ⟨u, w', g', h1, h2, h3⟩ := binE_ok (P := P) hO hτ hx hy h
    refine ⟨u, w', g', ?_, h2, h3⟩
    rw [Sem.run_bind, hplain h]
    exact h1
end Go.EV
namespace Go.EV
open Go Go.RowKit
set_option linter.unusedSimpArgs false
set_option linter.unusedVariables false

/-! ### maps -/
instance : LawfulBEq ByteArray where
  eq_of_beq h := (Go.MapKept.bytes_beq _ _).1 h
  rfl := (Go.MapKept.bytes_beq _ _).2 rfl
/-- Where a key is; behind the last one: nowhere. -/
def KL.idx : KL → AV → Option Nat
  | .ints k l, .int k' n => bif decide (k = k') then some (l.idxOf n) else none
  | .strs l, .str s => some (l.idxOf s)
  | _, _ => none
def KL.has : KL → AV → Bool
  | .ints _ l, .int _ n => decide (n ∈ l)
  | .strs l, .str s => decide (s ∈ l)
  | _, _ => false
def KL.put : KL → AV → KL
  | .ints k l, .int _ n => .ints k (if n ∈ l then l else l ++ [n])
  | .strs l, .str s => .strs (if s ∈ l then l else l ++ [s])
  | ks, _ => ks
def KL.fits : KL → TypeDesc → Bool
  | .ints k _, .int k' => decide (k = k')
  | .strs _, .string => true
  | _, _ => false
def mapT (τ : Ty) (t : TypeId) : Option (TI × TI) :=
  match τ t with
  | some ⟨.map kt et, _⟩ => match τ kt, τ et with
    | some k, some e => some (k, e)
    | _, _ => none
  | _ => none

def hintOK : Option AV → Bool
  | none => true
  | some (.int _ _) => true
  | _ => false
def makeMapE (τ : Ty) (L : Obs) (d : Option Nat) (t : TypeId) (r : Option AV) : OT :=
  match mapT τ t, d with
  | some (k, e), some d => match e.info.zero, L d with
    | some z, none =>
      bif hintOK r then
        match k.desc with
        | .int q => .val (.omap d) (.new d (.mp (.ints q []) fun _ => ofV z))
        | .string => .val (.omap d) (.new d (.mp (.strs []) fun _ => ofV z))
        | _ => .fail
      else .fail
    | _, _ => .fail
  | _, _ => .fail

def lookupE (τ : Ty) (L : Obs) (t : TypeId) (x ix : AV) (ok : Bool) : OT :=
  match mapT τ t, x with
  | some (k, e), .omap s => match e.info.zero, L s with
    | some z, some (.mp ks f) => bif ks.fits k.desc then
        match ks.idx ix with
        | some j => .req (f ks.len = ofV z) (.val (bif ok then .tup [f j, .bool (ks.has ix)] else f j) .no)
        | none => .fail
      else .fail
    | _, _ => .fail
  | _, _ => .fail

def mapUpdateE (τ : Ty) (L : Obs) (t : TypeId) (x ix y : AV) : OT :=
  match mapT τ t, x with
  | some (k, e), .omap s => match L s with
    | some (.mp ks f) => bif ks.fits k.desc && (isF y && oneA y) then
        match ks.idx ix with
        | some j => .val .bad (.upd s (.mp (ks.put ix) fun i => bif Nat.beq i j then y else f i))
        | none => .fail
      else .fail
    | _ => .fail
  | _, _ => .fail

def mapEntryE (τ : Ty) (L : Obs) (t : TypeId) (x ix : AV) : OT :=
  match mapT τ t, x with
  | some (k, e), .omap s => match e.info.zero, L s with
    | some z, some (.mp ks f) => bif ks.fits k.desc && (isF (ofV z) && oneA (ofV z)) then
        match ks.idx ix with
        | some j => .req (f ks.len = ofV z) (.val (.tup [f j, .int .i64 j]) (.upd s (.mp (ks.put ix) f)))
        | none => .fail
      else .fail
    | _, _ => .fail
  | _, _ => .fail

def entryStoreE (L : Obs) (x ix y : AV) : OT :=
  match x, ix with
  | .omap s, .int _ j => match L s with
    | some (.mp ks f) => bif isF y && oneA y then
        .req (0 ≤ j ∧ j < (ks.len : Int)) (.val .bad (.upd s (.mp ks fun i => bif Nat.beq i j.toNat then y else f i)))
      else .fail
    | _ => .fail
  | _, _ => .fail

def lenME (τ : Ty) (L : Obs) (t : TypeId) (x : AV) : OT :=
  match x with
  | .omap s => match τ t, L s with
    | some ⟨.map _ _, _⟩, some (.mp ks _) => .val (.int .i64 ks.len) .no
    | _, _ => .fail
  | x => lenOE τ L t x

/-! ### ranges over strings -/
def rangeE (τ : Ty) (L : Obs) (d : Option Nat) (t : TypeId) (x : AV) : OT :=
  match τ t, x, d with
  | some ⟨.string, _⟩, .str s, some d => match L d with
    | none => .val (.ref d 0 0 0 0) (.new d (.it s 0))
    | some _ => .fail
  | _, _, _ => .fail
def nextE (L : Obs) (x : AV) (isS : Bool) : OT :=
  match x, isS with
  | .ref s w i off ep, true => match L s with
    | some (.it t p) => bif Nat.beq w 0 && (Nat.beq i 0 && (Nat.beq off 0 && Nat.beq ep 0)) then
        .br (decide (p < t.size)) (.val (.tup [.bool true, .int .i64 p, .int .i32 (Utf8.decode t p).1]) (.upd s (.it t (p + (Utf8.decode t p).2)))) (.val (.tup [.bool false]) .no)
      else .fail
    | _ => .fail
  | _, _ => .fail

section
variable {P : Program} {g : G} {L : Obs} {w : World}

theorem mapT_ok {τ : Ty} (hτ : TyOK P τ) {t : TypeId} {k e : TI} (h : mapT τ t = some (k, e)) : ∃ kt et, P.underlying t = some (.map kt et) ∧ TyAt P kt k ∧ TyAt P et e := by
  unfold mapT at h
  split at h
  · rename_i kt et inf ht
    split at h
    · rename_i k' e' hk he
      cases h
      exact ⟨kt, et, (hτ t _ ht).u, hτ _ _ hk, hτ _ _ he⟩
    · cases h
  · cases h

theorem KL.vals_len (ks : KL) : ks.vals.length = ks.len := by cases ks <;> simp [KL.vals, KL.len]

/-- The value that a key's place tells. -/
theorem find_ok {ks : KL} {x : AV} {j : Nat} {sz : Nat → Nat} {u : Value} {d : TypeDesc} (hd : ks.fits d = true) (hj : ks.idx x = some j) (hx : R g sz w x u) (es : List MapEntry) (hes : es.map (·.key) = ks.vals) (n : Nat) :
    Go.MapKept.IsKey d u ∧ Instr.findNow d u es n = some (if ks.has x = true then some (n + j, (es.getD j default).val) else none) ∧ (ks.has x = true ↔ j < ks.len) ∧ (ks.has x = true → ks.vals.getD j undef = u) ∧
      (ks.has x = false → (ks.put x).vals = ks.vals ++ [u]) ∧ (ks.has x = true → ks.put x = ks) ∧ j ≤ ks.len := by
  cases ks with
  | ints k l =>
    cases x <;> simp only [KL.idx] at hj <;> try (cases hj; done)
    rename_i k' m
    cases hk : decide (k = k') with
    | false => rw [hk] at hj; cases hj
    | true =>
    rw [hk] at hj
    obtain rfl := of_decide_eq_true hk
    cases hj
    obtain rfl := hx.int_inv
    cases d <;> simp only [KL.fits] at hd <;> try (cases hd; done)
    rename_i q
    obtain rfl := of_decide_eq_true hd
    refine ⟨rfl, ?_, ?_, ?_, ?_, ?_, ?_⟩
    · simp only [KL.has, KL.vals] at hes ⊢
      induction l generalizing es n with
      | nil => cases es <;> simp_all [Instr.findNow]
      | cons a r ih =>
        cases es with
        | nil => simp at hes
        | cons e es =>
          simp only [List.map_cons, List.cons.injEq] at hes
          simp only [Instr.findNow, hes.1, Instr.sameNow, if_true]
          by_cases hma : m = a
          · subst hma
            simp [List.idxOf_cons]
          · have h1 : (m == a) = false := by simpa using hma
            have h2 : (a == m) = false := by simpa using fun e => hma e.symm
            rw [h1]
            simp only []
            rw [ih es (n + 1) hes.2]
            simp [List.idxOf_cons, h2, hma, Nat.add_assoc, Nat.add_comm 1]
    · simp [KL.has, KL.len, List.idxOf_lt_length_iff]
    · intro h
      have hm : m ∈ l := by simpa [KL.has] using h
      have := List.idxOf_lt_length_iff.2 hm
      simp [KL.vals, List.getD, this]
    · intro h
      have hm : m ∉ l := by simpa [KL.has] using h
      simp [KL.put, KL.vals, hm]
    · intro h
      have hm : m ∈ l := by simpa [KL.has] using h
      simp [KL.put, hm]
    · exact List.idxOf_le_length
  | strs l =>
    cases x <;> simp only [KL.idx] at hj <;> try (cases hj; done)
    rename_i m
    cases hj
    obtain rfl := hx.str_inv
    cases d <;> simp only [KL.fits] at hd <;> try (cases hd; done)
    refine ⟨trivial, ?_, ?_, ?_, ?_, ?_, ?_⟩
    · simp only [KL.has, KL.vals] at hes ⊢
      induction l generalizing es n with
      | nil => cases es <;> simp_all [Instr.findNow]
      | cons a r ih =>
        cases es with
        | nil => simp at hes
        | cons e es =>
          simp only [List.map_cons, List.cons.injEq] at hes
          simp only [Instr.findNow, hes.1, Instr.sameNow]
          by_cases hma : m = a
          · subst hma
            have : (m == m) = true := (Go.MapKept.bytes_beq m m).2 rfl
            rw [this]
            simp [List.idxOf_cons]
          · have h1 : (m == a) = false := by
              cases hb : m == a with
              | false => rfl
              | true => exact absurd ((Go.MapKept.bytes_beq m a).1 hb) hma
            rw [h1]
            simp only []
            rw [ih es (n + 1) hes.2]
            have h2 : (a == m) = false := by
              cases hb : a == m with
              | false => rfl
              | true => exact absurd ((Go.MapKept.bytes_beq a m).1 hb).symm hma
            simp [List.idxOf_cons, h2, hma, Nat.add_assoc, Nat.add_comm 1]
    · simp [KL.has, KL.len, List.idxOf_lt_length_iff]
    · intro h
      have hm : m ∈ l := by simpa [KL.has] using h
      have := List.idxOf_lt_length_iff.2 hm
      simp [KL.vals, List.getD, this]
    · intro h
      have hm : m ∉ l := by simpa [KL.has] using h
      simp [KL.put, KL.vals, hm]
    · intro h
      have hm : m ∈ l := by simpa [KL.has] using h
      simp [KL.put, hm]
    · exact List.idxOf_le_length

theorem omap_inv {s : Nat} {v : Value} (h : R g (szf L) w (.omap s) v) {ks : KL} {f : Nat → AV} (hs : L s = some (.mp ks f)) (hO : OR g L w) :
    ∃ b κ ms, v = .map (some b) ∧ g.β s = some (b, κ) ∧ w.heap[b]? = some (.map ms ms.size) ∧ ms.toList.map (·.key) = ks.vals ∧
      ∀ i (hi : i < ms.size), ms[i].born = i ∧ F g.S w (f i) ms[i].val ∧ ms[i].val.oneCell' = true := by
  obtain ⟨b, κ, ms, h1, h2, h3, h4⟩ := hO.ob s _ hs
  cases h with
  | fz _ _ h => cases h
  | omaps _ _ h => simp [szf, hs, szOf] at h
  | omap _ b' κ' he h =>
    rw [h1] at h; cases h
    exact ⟨b, κ, ms, rfl, h1, h2, h3, h4⟩

theorem makeMapE_ok (hO : OR g L w) {τ : Ty} (hτ : TyOK P τ) {d : Option Nat} {t : TypeId} {r : Option AV} {r' : Option Value} (hr : RO g (szf L) w r r') {v : AV} {e : Eff} (h : OT.Leaf v e (makeMapE τ L d t r)) :
    Shows P g L w (Instr.makeMap t r') v e := by
  unfold makeMapE at h
  split at h
  · rename_i k ei d hm
    obtain ⟨kt, et, hu, hk, he⟩ := mapT_ok hτ hm
    split at h
    · rename_i z hz hd
      have hrun : hintOK r = true → (Instr.makeMap t r').run P w = .ok (.map (some w.heap.size)) (w.alloc (.map #[] 0)) := by
        intro hc
        cases hr with
        | none => simp [Instr.makeMap]
        | @some x y hx =>
          cases x <;> simp only [hintOK] at hc <;> try (cases hc; done)
          obtain rfl := hx.int_inv
          simp [Instr.makeMap, run_underlying hu, asInt, asIntOf]
      cases hc : hintOK r with
      | false => rw [hc] at h; exact h.elim
      | true =>
      rw [hc] at h
      simp only [cond_true] at h
      have fin : ∀ ks : KL, ks.vals = [] → v = .omap d → e = .new d (.mp ks fun _ => ofV z) → Shows P g L w (Instr.makeMap t r') v e := by
        rintro ks hks rfl rfl
        have hst := Stp.new hO hd (.mp ks fun _ => ofV z) (.map #[] 0) 0 (fun g' sz' hm hβ => ⟨_, _, #[], hβ, push_new w _, by simp [hks], fun i hi => absurd hi (by simp)⟩)
        exact ⟨_, _, _, hrun hc, .omap _ _ 0 (by simp [szf, app_new, upd1_self, szOf]) (upd1_self _ _ _), hst⟩
      split at h
      · exact fin _ rfl h.1.symm h.2.symm
      · exact fin _ rfl h.1.symm h.2.symm
      · exact h.elim
    · exact h.elim
  · exact h.elim

theorem toList_getD_val (ms : Array MapEntry) {j : Nat} (hj : j < ms.size) : (ms.toList.getD j default) = ms[j] := by simp [List.getD, hj]

theorem ms_len {ms : Array MapEntry} {ks : KL} (h : ms.toList.map (·.key) = ks.vals) : ms.size = ks.len := by
  have := congrArg List.length h
  rw [KL.vals_len] at this; simpa using this

theorem lookupE_ok (hO : OR g L w) {τ : Ty} (hτ : TyOK P τ) {t : TypeId} {x ix : AV} {a b : Value} {ok : Bool} (hx : R g (szf L) w x a) (hy : R g (szf L) w ix b) {v : AV} {e : Eff} (h : OT.Leaf v e (lookupE τ L t x ix ok)) :
    Shows P g L w (Instr.lookup t a b ok) v e := by
  unfold lookupE at h
  split at h
  · rename_i k ei s hm
    obtain ⟨kt, et, hu, hk, he⟩ := mapT_ok hτ hm
    split at h
    · rename_i z ks f hz hs
      cases hf : ks.fits k.desc with
      | false => rw [hf] at h; exact h.elim
      | true =>
      rw [hf] at h
      simp only [cond_true] at h
      split at h
      · rename_i j hj
        obtain ⟨hfz, h⟩ := h
        obtain ⟨blk, κ, ms, rfl, hβ, hh, hks, hms⟩ := omap_inv hx hs hO
        obtain ⟨q1, q2, q3, _⟩ := find_ok hf hj hy ms.toList hks 0
        have hsz := ms_len hks
        have hzero : (zeroValue et).run P w = .ok z w := by simp [zeroValue, typeInfo, he.i, hz]
        have val : ∃ u, (Instr.lookup t (.map (some blk)) b ok).run P w = .ok (if ok = true then .tuple #[u, .bool (ks.has ix)] else u) w ∧ R g (szf L) w (f j) u := by
          cases hh2 : ks.has ix with
          | true =>
            rw [hh2] at q2 q3
            have hj2 : j < ms.size := by rw [hsz]; exact q3.1 rfl
            refine ⟨ms[j].val, ?_, .fz _ _ (hms j hj2).2.1⟩
            simp only [if_true, Nat.zero_add, toList_getD_val ms hj2] at q2
            simp only [Instr.lookup, Sem.run_bind, run_underlying hu, Result.andThen_ok, Go.MapKept.run_getObj_map hh, Go.MapKept.run_checkKey hk.u q1, Go.MapKept.run_findKey hk.u q2, Sem.run_pure]
          | false =>
            rw [hh2] at q2 q3
            have hj2 : j = ks.len := by
              have h1 : ¬ j < ks.len := fun h => by cases q3.2 h
              have h2 := (find_ok hf hj hy ms.toList hks 0).2.2.2.2.2.2
              omega
            refine ⟨z, ?_, by rw [hj2, hfz]; exact R_ofV z⟩
            simp only [Bool.false_eq_true, if_false] at q2
            simp only [Instr.lookup, Sem.run_bind, run_underlying hu, Result.andThen_ok, Go.MapKept.run_getObj_map hh, Go.MapKept.run_checkKey hk.u q1, Go.MapKept.run_findKey hk.u q2, Sem.run_pure, hzero]
        obtain ⟨u, hrun, hR⟩ := val
        cases ok with
        | true =>
          obtain ⟨rfl, rfl⟩ := h
          refine Shows.pure hO _ hrun (.tup _ _ rfl fun i hi => ?_)
          match i, hi with
          | 0, _ => exact hR
          | 1, _ => exact R.bool _
        | false =>
          obtain ⟨rfl, rfl⟩ := h
          exact Shows.pure hO _ hrun hR
      · exact h.elim
    · exact h.elim
  · exact h.elim

/-- The entries behind a change. -/
theorem mp_ok {s b κ : Nat} {g : G} {sz : Nat → Nat} {w : World} {ks : KL} {f : Nat → AV} (ms : Array MapEntry) (hβ : g.β s = some (b, κ)) (hh : w.heap[b]? = some (.map ms ms.size)) (hks : ms.toList.map (·.key) = ks.vals)
    (hms : ∀ i (hi : i < ms.size), ms[i].born = i ∧ F g.S w (f i) ms[i].val ∧ ms[i].val.oneCell' = true) : ObR g sz w s (.mp ks f) := ⟨b, κ, ms, hβ, hh, hks, hms⟩

theorem keys_modify {ms : Array MapEntry} (j : Nat) (k : MapEntry → MapEntry) (hk : ∀ e, ms[j]? = some e → (k e).key = e.key) : (ms.modify j k).toList.map (·.key) = ms.toList.map (·.key) := Go.MapKept.modify_keys j k hk

theorem mapUpdateE_ok (hO : OR g L w) {τ : Ty} (hτ : TyOK P τ) {t : TypeId} {x ix y : AV} {a b u : Value} (hx : R g (szf L) w x a) (hix : R g (szf L) w ix b) (hy : R g (szf L) w y u) {v : AV} {e : Eff}
    (h : OT.Leaf v e (mapUpdateE τ L t x ix y)) : ShowsU P g L w (Instr.mapUpdate t a b u) v e := by
  unfold mapUpdateE at h
  split at h
  · rename_i k ei s hm
    obtain ⟨kt, et, hu, hk, he⟩ := mapT_ok hτ hm
    split at h
    · rename_i ks f hs
      cases hf : (ks.fits k.desc && (isF y && oneA y)) with
      | false => rw [hf] at h; exact h.elim
      | true =>
      rw [hf] at h
      simp only [Bool.and_eq_true] at hf
      obtain ⟨hf, hF, h1⟩ := hf
      simp only [cond_true] at h
      split at h
      · rename_i j hj
        obtain ⟨rfl, rfl⟩ := h
        obtain ⟨blk, κ, ms, rfl, hβ, hh, hks, hms⟩ := omap_inv hx hs hO
        obtain ⟨q1, q2, q3, q4, q5, q6, _⟩ := find_ok hf hj hix ms.toList hks 0
        have hsz := ms_len hks
        have hyF := hy.toF hF
        have hy1 := hy.one h1
        have hsz0 : szf L s ≤ szOf (some (.mp (ks.put ix) fun i => bif Nat.beq i j then y else f i)) := by simp [szf, hs, szOf]
        cases hh2 : ks.has ix with
        | true =>
          rw [hh2] at q2 q3
          have hj2 : j < ms.size := by rw [hsz]; exact q3.1 rfl
          simp only [if_true, Nat.zero_add, toList_getD_val ms hj2] at q2
          have hkey : ms[j].key = b := by
            have h5 := q4 hh2
            rw [← hks] at h5
            simpa [List.getD, hj2] using h5
          have hrun : (Instr.mapUpdate t (.map (some blk)) b u).run P w = .ok () (setO w blk (.map (ms.modify j fun e => { e with key := b, val := u }) ms.size)) := by
            simp [Instr.mapUpdate, run_underlying hu, Go.MapKept.run_getObj_map hh, Go.MapKept.run_checkKey hk.u q1, Go.MapKept.run_findKey hk.u q2, hj2, hkey, Go.MapKept.run_keyThatStays q1, Go.MapKept.run_setObj_map _ hh, Result.andThen, setO]
          refine ⟨_, g, hrun, rfl, Stp.put hO hβ _ _ hsz0 fun hmo => ?_⟩
          rw [q6 hh2]
          refine mp_ok (ms.modify j fun e => { e with key := b, val := u }) hβ (by rw [setO_at hh]; simp) ?_ fun i hi => ?_
          · rw [keys_modify j _ (fun e' he' => by
              have : e' = ms[j] := by rw [Array.getElem?_eq_getElem hj2] at he'; cases he'; rfl
              rw [this]; exact hkey.symm), hks]
          · have hi' : i < ms.size := by simpa using hi
            have hm0 := hms i hi'
            rw [Array.getElem_modify]
            by_cases e1 : j = i
            · subst e1
              simp only [if_true, beq_self, cond_true]
              exact ⟨hm0.1, hyF.mono hmo.S hmo.cell, hy1⟩
            · rw [if_neg e1, beq_ne (fun e2 => e1 e2.symm)]
              exact ⟨hm0.1, hm0.2.1.mono hmo.S hmo.cell, hm0.2.2⟩
        | false =>
          rw [hh2] at q2 q3
          have hj2 : j = ms.size := by
            have h1 : ¬ j < ks.len := fun h => by cases q3.2 h
            have h2 := (find_ok hf hj hix ms.toList hks 0).2.2.2.2.2.2
            omega
          simp only [Bool.false_eq_true, if_false] at q2
          have hrun : (Instr.mapUpdate t (.map (some blk)) b u).run P w = .ok () (setO w blk (.map (ms.push { key := b, val := u, born := ms.size }) (ms.size + 1))) := by
            simp [Instr.mapUpdate, run_underlying hu, Go.MapKept.run_getObj_map hh, Go.MapKept.run_checkKey hk.u q1, Go.MapKept.run_findKey hk.u q2, Go.MapKept.run_setObj_map _ hh, Result.andThen, setO]
          refine ⟨_, g, hrun, rfl, Stp.put hO hβ _ _ hsz0 fun hmo => ?_⟩
          refine mp_ok (ms.push { key := b, val := u, born := ms.size }) hβ (by rw [setO_at hh]; simp) ?_ fun i hi => ?_
          · rw [q5 hh2, ← hks]; simp
          · by_cases e1 : i = ms.size
            · subst e1
              simp only [Array.getElem_push_eq]
              rw [hj2, beq_self]
              exact ⟨by first | rfl | trivial, hyF.mono hmo.S hmo.cell, hy1⟩
            · have hi' : i < ms.size := by simp at hi; omega
              rw [Array.getElem_push_lt hi', hj2, beq_ne e1]
              have hm0 := hms i hi'
              exact ⟨hm0.1, hm0.2.1.mono hmo.S hmo.cell, hm0.2.2⟩
      · exact h.elim
    · exact h.elim
  · exact h.elim

theorem mapEntryE_ok (hO : OR g L w) {τ : Ty} (hτ : TyOK P τ) {t : TypeId} {x ix : AV} {a b : Value} (hx : R g (szf L) w x a) (hix : R g (szf L) w ix b) {v : AV} {e : Eff}
    (h : OT.Leaf v e (mapEntryE τ L t x ix)) : Shows P g L w (Instr.mapEntry t a b) v e := by
  unfold mapEntryE at h
  split at h
  · rename_i k ei s hm
    obtain ⟨kt, et, hu, hk, he⟩ := mapT_ok hτ hm
    split at h
    · rename_i z ks f hz hs
      cases hf : (ks.fits k.desc && (isF (ofV z) && oneA (ofV z))) with
      | false => rw [hf] at h; exact h.elim
      | true =>
      rw [hf] at h
      simp only [Bool.and_eq_true] at hf
      obtain ⟨hf, hF, h1⟩ := hf
      simp only [cond_true] at h
      split at h
      · rename_i j hj
        obtain ⟨hfz, rfl, rfl⟩ := h
        obtain ⟨blk, κ, ms, rfl, hβ, hh, hks, hms⟩ := omap_inv hx hs hO
        obtain ⟨q1, q2, q3, q4, q5, q6, _⟩ := find_ok hf hj hix ms.toList hks 0
        have hsz := ms_len hks
        have hzero : ∀ w : World, (zeroValue et).run P w = .ok z w := fun w => by simp [zeroValue, typeInfo, he.i, hz]
        have hzR : R g (szf L) w (ofV z) z := R_ofV z
        have hsz0 : szf L s ≤ szOf (some (.mp (ks.put ix) f)) := by simp [szf, hs, szOf]
        have tup : ∀ {g' : G} {sz' : Nat → Nat} {w' : World} {q : Value}, R g' sz' w' (f j) q → R g' sz' w' (.tup [f j, .int .i64 j]) (.tuple #[q, goInt j]) := fun hq => .tup _ _ rfl fun i hi => by
          match i, hi with
          | 0, _ => exact hq
          | 1, _ => exact R.int _ _
        cases hh2 : ks.has ix with
        | true =>
          rw [hh2] at q2 q3
          have hj2 : j < ms.size := by rw [hsz]; exact q3.1 rfl
          simp only [if_true, Nat.zero_add, toList_getD_val ms hj2] at q2
          have hkey : ms[j].key = b := by
            have h5 := q4 hh2
            rw [← hks] at h5
            simpa [List.getD, hj2] using h5
          have hm1 := hms j hj2
          have hrun : (Instr.mapEntry t (.map (some blk)) b).run P w = .ok (.tuple #[ms[j].val, goInt j]) (setO w blk (.map (ms.modify j fun e => { e with key := b }) ms.size)) := by
            simp [Instr.mapEntry, run_underlying hu, Go.MapKept.run_getObj_map hh, Go.MapKept.run_checkKey hk.u q1, Go.MapKept.run_findKey hk.u q2, hj2, hkey, Go.MapKept.run_keyThatStays q1, Go.MapKept.run_setObj_map _ hh, Result.andThen, setO, hm1.1]
          have hst := Stp.put hO hβ (.mp (ks.put ix) f) (.map (ms.modify j fun e => { e with key := b }) ms.size) hsz0 fun hmo => by
            rw [q6 hh2]
            refine mp_ok (ms.modify j fun e => { e with key := b }) hβ (by rw [setO_at hh]; simp) ?_ fun i hi => ?_
            · rw [keys_modify j _ (fun e' he' => by
                have : e' = ms[j] := by rw [Array.getElem?_eq_getElem hj2] at he'; cases he'; rfl
                rw [this]; exact hkey.symm), hks]
            · have hi' : i < ms.size := by simpa using hi
              have hm0 := hms i hi'
              rw [Array.getElem_modify]
              by_cases e1 : j = i
              · subst e1
                simp only [if_true]
                exact ⟨hm0.1, hm0.2.1.mono hmo.S hmo.cell, hm0.2.2⟩
              · rw [if_neg e1]
                exact ⟨hm0.1, hm0.2.1.mono hmo.S hmo.cell, hm0.2.2⟩
          exact ⟨_, _, g, hrun, tup (.fz _ _ (hm1.2.1.mono hst.m.S hst.m.cell)), hst⟩
        | false =>
          rw [hh2] at q2 q3
          have hj2 : j = ms.size := by
            have h1 : ¬ j < ks.len := fun h => by cases q3.2 h
            have h2 := (find_ok hf hj hix ms.toList hks 0).2.2.2.2.2.2
            omega
          simp only [Bool.false_eq_true, if_false] at q2
          have hfj : f j = ofV z := by rw [hj2, hsz, hfz]
          have hrun : (Instr.mapEntry t (.map (some blk)) b).run P w = .ok (.tuple #[z, goInt ms.size]) (setO w blk (.map (ms.push { key := b, val := z, born := ms.size }) (ms.size + 1))) := by
            simp [Instr.mapEntry, run_underlying hu, Go.MapKept.run_getObj_map hh, Go.MapKept.run_checkKey hk.u q1, Go.MapKept.run_findKey hk.u q2, hzero, Go.MapKept.run_setObj_map _ hh, Result.andThen, setO]
          have hst := Stp.put hO hβ (.mp (ks.put ix) f) (.map (ms.push { key := b, val := z, born := ms.size }) (ms.size + 1)) hsz0 fun hmo => by
            refine mp_ok (ms.push { key := b, val := z, born := ms.size }) hβ (by rw [setO_at hh]; simp) ?_ fun i hi => ?_
            · rw [q5 hh2, ← hks]; simp
            · by_cases e1 : i = ms.size
              · subst e1
                simp only [Array.getElem_push_eq]
                have hfj' : f ms.size = ofV z := hj2 ▸ hfj
                rw [hfj']
                exact ⟨by first | rfl | trivial, (hzR.toF hF).mono hmo.S hmo.cell, hzR.one h1⟩
              · have hi' : i < ms.size := by simp at hi; omega
                rw [Array.getElem_push_lt hi']
                have hm0 := hms i hi'
                exact ⟨hm0.1, hm0.2.1.mono hmo.S hmo.cell, hm0.2.2⟩
          refine ⟨_, _, g, hrun, ?_, hst⟩
          rw [← hj2]
          exact tup (by rw [hfj]; exact R_ofV z)
      · exact h.elim
    · exact h.elim
  · exact h.elim

theorem findIdx_born {ms : Array MapEntry} (hms : ∀ i (hi : i < ms.size), ms[i].born = i) {j : Nat} (hj : j < ms.size) : ms.findIdx? (fun e => ((e.born : Int) == (j : Int))) = some j := by
  rw [Array.findIdx?_eq_some_iff_getElem]
  refine ⟨hj, by simp [hms j hj], fun i hi => ?_⟩
  rw [hms i (by omega)]
  simp; omega

theorem entryStoreE_ok (hO : OR g L w) {t : TypeId} {x ix y : AV} {a b u : Value} (hx : R g (szf L) w x a) (hix : R g (szf L) w ix b) (hy : R g (szf L) w y u) {v : AV} {e : Eff}
    (h : OT.Leaf v e (entryStoreE L x ix y)) : ShowsU P g L w (Instr.entryStore t a b u) v e := by
  unfold entryStoreE at h
  split at h
  · rename_i s k j
    split at h
    · rename_i ks f hs
      cases hf : (isF y && oneA y) with
      | false => rw [hf] at h; exact h.elim
      | true =>
      rw [hf] at h
      simp only [Bool.and_eq_true] at hf
      obtain ⟨hF, h1⟩ := hf
      obtain ⟨⟨hj0, hj1⟩, rfl, rfl⟩ := h
      obtain rfl := hix.int_inv
      obtain ⟨blk, κ, ms, rfl, hβ, hh, hks, hms⟩ := omap_inv hx hs hO
      have hsz := ms_len hks
      have hjn : j.toNat < ms.size := by omega
      have hjj : ((j.toNat : Nat) : Int) = j := Int.toNat_of_nonneg hj0
      have hfi := findIdx_born (fun i hi => (hms i hi).1) hjn
      rw [hjj] at hfi
      have hrun : (Instr.entryStore t (.map (some blk)) (.int k j) u).run P w = .ok () (setO w blk (.map (ms.modify j.toNat fun e => { e with val := u }) ms.size)) := by
        simp [Instr.entryStore, Go.MapKept.run_getObj_map hh, asInt, asIntOf, hfi, Go.MapKept.run_setObj_map _ hh, Result.andThen, setO]
      refine ⟨_, g, hrun, rfl, Stp.put hO hβ _ _ (by simp [szf, hs, szOf]) fun hmo => ?_⟩
      refine mp_ok (ms.modify j.toNat fun e => { e with val := u }) hβ (by rw [setO_at hh]; simp) ?_ fun i hi => ?_
      · rw [keys_modify j.toNat (fun e => { e with val := u }) (fun _ _ => rfl), hks]
      · have hi' : i < ms.size := by simpa using hi
        have hm0 := hms i hi'
        rw [Array.getElem_modify]
        by_cases e1 : j.toNat = i
        · subst e1
          simp only [if_true, beq_self, cond_true]
          exact ⟨hm0.1, (hy.toF hF).mono hmo.S hmo.cell, hy.one h1⟩
        · rw [if_neg e1, beq_ne (fun e2 => e1 e2.symm)]
          exact ⟨hm0.1, hm0.2.1.mono hmo.S hmo.cell, hm0.2.2⟩
    · exact h.elim
  · exact h.elim

theorem lenME_ok (hO : OR g L w) {τ : Ty} (hτ : TyOK P τ) {t ty : TypeId} {x : AV} {a : Value} (hx : R g (szf L) w x a) {v : AV} {e : Eff} (h : OT.Leaf v e (lenME τ L t x)) :
    Shows P g L w (Builtin.len_ #[t] ty #[a]) v e := by
  unfold lenME at h
  split at h
  · rename_i s
    split at h
    · rename_i kt et inf ks f ht hs
      obtain ⟨rfl, rfl⟩ := h
      obtain ⟨blk, κ, ms, rfl, hβ, hh, hks, hms⟩ := omap_inv hx hs hO
      refine Shows.pure hO (.int .i64 ks.len) ?_ (R.int _ _)
      simp [Builtin.len_, run_underlying (hτ t _ ht).u, Go.MapKept.run_getObj_map hh, ← ms_len hks, goInt]
    · exact h.elim
  · exact lenOE_ok hO hτ hx h

theorem rangeE_ok (hO : OR g L w) {τ : Ty} (hτ : TyOK P τ) {d : Option Nat} {t : TypeId} {x : AV} {a : Value} (hx : R g (szf L) w x a) {v : AV} {e : Eff} (h : OT.Leaf v e (rangeE τ L d t x)) :
    Shows P g L w (Instr.range t a) v e := by
  unfold rangeE at h
  split at h
  · rename_i inf s d ht
    obtain rfl := hx.str_inv
    split at h
    · rename_i hd
      obtain ⟨rfl, rfl⟩ := h
      have hst := Stp.new hO hd (.it s 0) (.stringIter s 0) 0 (fun g' sz' hm hβ => ⟨_, _, hβ, push_new w _⟩)
      refine ⟨.pointer (some ⟨w.heap.size, 0, none⟩), _, _, ?_, ?_, hst⟩
      · simp [Instr.range, run_underlying (hτ t _ ht).u]
      · have : (⟨w.heap.size, 0, none⟩ : Addr) = ⟨w.heap.size, 0 * 0 + 0, none⟩ := by simp
        rw [this]
        exact .ref _ _ _ _ _ _ 0 (by simp [szf, app_new, upd1_self, szOf]) (upd1_self _ _ _)
    · exact h.elim
  · exact h.elim

theorem nextE_ok (hO : OR g L w) {x : AV} {isS : Bool} {ty : TypeId} {a : Value} (hx : R g (szf L) w x a) {v : AV} {e : Eff} (h : OT.Leaf v e (nextE L x isS)) :
    Shows P g L w (Instr.next a isS ty) v e := by
  unfold nextE at h
  split at h
  · rename_i s w' i off ep
    split at h
    · rename_i t p hs
      cases hb : (Nat.beq w' 0 && (Nat.beq i 0 && (Nat.beq off 0 && Nat.beq ep 0))) with
      | false => rw [hb] at h; exact h.elim
      | true =>
      rw [hb] at h
      simp only [Bool.and_eq_true, Nat.beq_eq] at hb
      obtain ⟨rfl, rfl, rfl, rfl⟩ := hb
      obtain ⟨b, κ, hβ, hh⟩ := hO.ob s _ hs
      obtain ⟨b', κ', hβ', rfl⟩ := ref_inv hx (by simp [szf, hs, szOf])
      rw [hβ] at hβ'; cases hβ'
      have hget : (getObj b).run P w = .ok (.stringIter t p) w := by simp [getObj, Sem.run, hh]
      rcases h with ⟨hp, rfl, rfl⟩ | ⟨hp, rfl, rfl⟩
      · have hp := of_decide_eq_true hp
        have hset : (setObj b (.stringIter t (p + (Utf8.decode t p).2))).run P w = .ok () (setO w b (.stringIter t (p + (Utf8.decode t p).2))) := by simp [setObj, Sem.run, hh, setO]
        have hst := Stp.put hO hβ (.it t (p + (Utf8.decode t p).2)) (.stringIter t (p + (Utf8.decode t p).2)) (by simp [szf, hs, szOf]) fun hmo => ⟨b, κ, hβ, setO_at hh⟩
        refine ⟨.tuple #[.bool true, .int .i64 p, .int .i32 (Utf8.decode t p).1], _, g, ?_, .tup _ _ rfl fun i hi => ?_, hst⟩
        · simp [Instr.next, hget, hp, hset, goInt]
        · match i, hi with
          | 0, _ => exact R.bool _
          | 1, _ => exact R.int _ _
          | 2, _ => exact R.int _ _
      · have hp := of_decide_eq_false hp
        refine Shows.pure hO (.tuple #[.bool false]) ?_ (.tup _ _ rfl fun i hi => ?_)
        · simp [Instr.next, hget, hp]
        · match i, hi with
          | 0, _ => exact R.bool _
    · exact h.elim
  · exact h.elim
end
end Go.EV
namespace Go.EV
open Go Go.RowKit
set_option linter.unusedSimpArgs false
set_option linter.unusedVariables false

/-! ### bytes made a string -/
def nOf : AV → Int
  | .int _ n => n
  | _ => 0
def isU8s (τ : Ty) (t : TypeId) : Bool :=
  match τ t with
  | some ⟨.slice el, _⟩ => match τ el with
    | some ⟨.int .u8, _⟩ => true
    | _ => false
  | _ => false
def isStrT (τ : Ty) (t : TypeId) : Bool :=
  match τ t with
  | some ⟨.string, _⟩ => true
  | _ => false
def convB (τ : Ty) (L : Obs) (src dst : TypeId) (x : AV) : OT :=
  bif isU8s τ src && isStrT τ dst then
    appendE.srcE L 1 x fun m f => .req (∀ i, i < m → f i 0 = .int .u8 (nOf (f i 0))) (.val (.str (strOfNums ((List.range m).map fun i => nOf (f i 0)))) .no)
  else convE τ src dst x

section
variable {P : Program} {g : G} {L : Obs} {w : World}
theorem isU8s_spec {τ : Ty} (hτ : TyOK P τ) {t : TypeId} (h : isU8s τ t = true) : ∃ e, P.underlying t = some (.slice e) ∧ P.underlying e = some (.int .u8) := by
  unfold isU8s at h
  split at h
  · rename_i el i ht
    split at h
    · rename_i i' he
      exact ⟨el, (hτ _ _ ht).u, (hτ _ _ he).u⟩
    · cases h
  · cases h
theorem isStrT_spec {τ : Ty} (hτ : TyOK P τ) {t : TypeId} (h : isStrT τ t = true) : P.underlying t = some .string := by
  unfold isStrT at h
  split at h
  · rename_i i ht
    exact (hτ _ _ ht).u
  · cases h

theorem convB_ok (hO : OR g L w) {τ : Ty} (hτ : TyOK P τ) {src dst : TypeId} {x : AV} {a : Value} (hx : R g (szf L) w x a) {v : AV} {e : Eff} (h : OT.Leaf v e (convB τ L src dst x)) :
    Shows P g L w (convert src dst a) v e := by
  unfold convB at h
  cases hb : (isU8s τ src && isStrT τ dst) with
  | false => rw [hb] at h; exact convE_ok hO hτ hx h
  | true =>
    rw [hb] at h
    simp only [Bool.and_eq_true] at hb
    obtain ⟨el, hs, he⟩ := isU8s_spec hτ hb.1
    have hd := isStrT_spec hτ hb.2
    obtain ⟨m, f, hsrc, h⟩ := srcE_ok hO (by omega) hx h
    obtain ⟨hall, rfl, rfl⟩ := h
    obtain ⟨a, c, rfl, hin⟩ := hsrc
    refine Shows.pure hO _ ?_ (R.str _)
    rcases Nat.eq_zero_or_pos m with rfl | hm
    · rw [run_convert_bytes_string w src dst el _ 0 c hs he hd]
      cases a <;> simp [Conv.bytesToString, loadCells, loadCellsFrom, strOfNums] <;> rfl
    · obtain ⟨b, o, news, rfl, hl, hc, h1, hf⟩ := hin hm
      refine run_convert_bytes_arg w src el hs he b o m c _ (by simp) (fun i hi => ?_) dst hd
      have hcell := hf i 0 hi (by omega)
      rw [hall i hi] at hcell
      have hv : news.getD (i * 1 + 0) undef = .int .u8 (nOf (f i 0)) := by
        generalize news.getD (i * 1 + 0) undef = u at hcell
        cases hcell with
        | int k n => rfl
      have hi' : i < news.length := by omega
      have h2 := hc i (news[i]) (by simp [hi'])
      rw [Addr.add_at] at h2
      rw [h2]
      have e1 : news[i] = .int .u8 (nOf (f i 0)) := by simpa [List.getD, hi'] using hv
      rw [e1]
      simp [List.getD, hi]
end
end Go.EV
namespace Go.EV
open Go Go.RowKit
set_option linter.unusedSimpArgs false
set_option linter.unusedVariables false
/-! ### clear -/
def clearE (τ : Ty) (L : Obs) (t : TypeId) (x : AV) : OT :=
  match τ t, x with
  | some ⟨.slice el, _⟩, .osl s w' off len cap =>
    match τ el, L s with
    | some e, some (.buf n w1 f) =>
      match e.info.zero with
      | some z => bif Nat.beq w' e.info.size && (Nat.beq w1 e.info.size && (Nat.beq (cellsA (ofV z)).length e.info.size && (Nat.blt 0 e.info.size && (cellsA (ofV z)).all fun x => oneA x && isF x))) then
          .req (off + cap = n ∧ len ≤ cap) (.val (.tup []) (.upd s (.buf n e.info.size fun i j => bif Nat.ble off i && Nat.blt i (off + len) then (cellsA (ofV z)).getD j .bad else f i j)))
        else .fail
      | none => .fail
    | _, _ => .fail
  | _, _ => .fail
section
variable {P : Program} {g : G} {L : Obs} {w : World}
theorem zeroCells_getD (z : Array Value) (n k : Nat) (hk : k < n * z.size) (hz : 0 < z.size) : (Builtin.zeroCells z n).getD k undef = z.getD (k % z.size) undef := by
  unfold Builtin.zeroCells
  have hm : k % z.size < z.size := Nat.mod_lt _ hz
  simp [Array.getD, hk, hm]
theorem clearE_ok (hO : OR g L w) {τ : Ty} (hτ : TyOK P τ) {t ty : TypeId} {x : AV} {a : Value} (hx : R g (szf L) w x a) {v : AV} {e : Eff} (h : OT.Leaf v e (clearE τ L t x)) :
    Shows P g L w (Builtin.clear_ #[t] ty #[a]) v e := by
  unfold clearE at h
  split at h
  case h_2 => exact h.elim
  rename_i el inf s w' off len cap ht
  split at h
  case h_2 => exact h.elim
  rename_i et n w1 f het hs
  split at h
  case h_2 => exact h.elim
  rename_i z hz
  cases hb : (Nat.beq w' et.info.size && (Nat.beq w1 et.info.size && (Nat.beq (cellsA (ofV z)).length et.info.size && (Nat.blt 0 et.info.size && (cellsA (ofV z)).all fun x => oneA x && isF x)))) with
  | false => rw [hb] at h; exact h.elim
  | true =>
  rw [hb] at h
  simp only [Bool.and_eq_true, Nat.beq_eq, Nat.blt_eq] at hb
  obtain ⟨rfl, rfl, hb1, hb2, hb3⟩ := hb
  obtain ⟨⟨rfl, hlen⟩, rfl, rfl⟩ := h
  have hu := (hτ t _ ht).u
  have hi := (hτ _ _ het).i
  have hsz : szf L s = off + cap := by simp [szf, hs, szOf]
  obtain ⟨h1, h2⟩ := ofV_cells (g := g) (L := L) (w := w) z
  have hzs : z.cells.size = et.info.size := h1.trans hb1
  have same : ∀ {o : Ob}, (∀ g' sz' w', Mo g (szf L) w g' sz' w' → w'.heap = w.heap → g'.β s = g.β s → ObR g' sz' w' s o) → szOf (some o) = off + cap → Stp g L w g ((Eff.upd s o).app L) w := fun {o} hob hso => by
    refine Stp.one hO s rfl rfl rfl (Nat.le_refl _) (fun _ _ => rfl) (fun i hi => upd1_ne _ _ hi) rfl (fun _ _ _ => rfl) (fun b κ h => ?_) (.inr ⟨by simp [app_upd, upd1_self], .inl ⟨by rw [hsz]; show szOf (upd1 L s (some o) s) = _; rw [upd1_self]; exact hso, rfl⟩⟩) ?_
    · exact ⟨by simp [app_upd, upd1_self], (hO.own s b κ h).2.1, .inr ⟨κ, h⟩⟩
    · intro hm o' ho'
      have : o' = o := by simpa [app_upd, upd1_self] using ho'.symm
      subst this
      exact hob _ _ _ hm rfl rfl
  rcases osl_inv hx (by rw [hsz]) with ⟨a', e1, rfl, e2, rfl⟩ | ⟨b, κ, hβ, rfl, hl, hκ, hc⟩
  · refine ⟨.tuple #[], w, g, ?_, .tup _ _ rfl fun i hi => absurd hi (by simp), same (fun g' sz' w'' hm hh hβ => ?_) rfl⟩
    · cases a' <;> simp [Builtin.clear_, run_underlying hu]
    · have h0 := hO.ob s _ hs
      have h0 := h0.mono hm hβ (fun b κ _ => by rw [hh])
      rcases h0 with h0 | ⟨b, κ, cs, T, k1, k2, k3, k4, k5⟩
      · exact .inl h0
      · refine .inr ⟨b, κ, cs, T, k1, k2, k3, k4, fun i j hi hj => ?_⟩
        have : (Nat.ble off i && Nat.blt i (off + 0)) = false := by rw [Bool.eq_false_iff]; intro hh; simp only [Bool.and_eq_true, Nat.ble_eq, Nat.blt_eq] at hh; omega
        simp only [this, cond_false]
        exact k5 i j hi hj
  · rcases hO.ob s _ hs with h0 | ⟨b', κ', cs, T, hβ', hh, hn, hcs, hr⟩
    · omega
    rw [hβ] at hβ'; cases hβ'
    rw [hsz] at hκ
    rcases Nat.eq_zero_or_pos len with rfl | hl0
    · refine ⟨.tuple #[], w, g, ?_, .tup _ _ rfl fun i hi => absurd hi (by simp), same (fun g' sz' w'' hm hh hβ => ?_) rfl⟩
      · simp [Builtin.clear_, run_underlying hu]
      · have h0 := hO.ob s _ hs
        have h0 := h0.mono hm hβ (fun b κ _ => by rw [hh])
        rcases h0 with h0 | ⟨b, κ, cs, T, k1, k2, k3, k4, k5⟩
        · exact .inl h0
        · refine .inr ⟨b, κ, cs, T, k1, k2, k3, k4, fun i j hi hj => ?_⟩
          have : (Nat.ble off i && Nat.blt i (off + 0)) = false := by rw [Bool.eq_false_iff]; intro hh; simp only [Bool.and_eq_true, Nat.ble_eq, Nat.blt_eq] at hh; omega
          simp only [this, cond_false]
          exact k5 i j hi hj
    · have hzl : (Builtin.zeroCells z.cells len).size = len * et.info.size := by rw [size_zeroCells, hzs]
      have hone : ∀ k, k < len * et.info.size → (Builtin.zeroCells z.cells len).getD k undef = z.cells.getD (k % et.info.size) undef := fun k hk => by
        rw [zeroCells_getD _ _ _ (by rw [hzs]; exact hk) (by omega), hzs]
      have hcell : ∀ j, j < et.info.size → F g.S w ((cellsA (ofV z)).getD j .bad) (z.cells.getD j undef) ∧ (z.cells.getD j undef).oneCell' = true := fun j hj => by
        have hj' : j < (cellsA (ofV z)).length := by omega
        have h5 := List.all_eq_true.1 hb3 _ (List.getElem_mem hj')
        simp only [Bool.and_eq_true] at h5
        have e2 : (cellsA (ofV z)).getD j .bad = (cellsA (ofV z))[j] := by simp [List.getD, hj']
        have h6 := h2 j hj'
        rw [e2] at h6 ⊢
        exact ⟨h6.toF h5.2, h6.one h5.1⟩
      have h1c : ∀ u ∈ (Builtin.zeroCells z.cells len).toList, u.oneCell' = true := fun u hu' => by
        obtain ⟨k, hk, rfl⟩ := List.getElem_of_mem hu'
        have hk' : k < (Builtin.zeroCells z.cells len).size := by simpa using hk
        have := hone k (by omega)
        have e3 : (Builtin.zeroCells z.cells len).getD k undef = (Builtin.zeroCells z.cells len).toList[k] := by simp [Array.getD, hk']
        rw [← e3, this]
        exact (hcell _ (Nat.mod_lt _ hb2)).2
      have hfit : off * et.info.size + 0 + (Builtin.zeroCells z.cells len).toList.length ≤ cs.size := by
        rw [Array.length_toList, hzl, hcs, Nat.add_zero, ← Nat.add_mul]
        exact Nat.mul_le_mul_right _ (by omega)
      have hstc := run_storeCells_at P b (off * et.info.size) T (Builtin.zeroCells z.cells len).toList 0 cs w hh hfit h1c
      have hrun : (Builtin.clear_ #[t] ty #[.slice (some ⟨b, off * et.info.size, none⟩) len (κ - off)]).run P w = .ok (.tuple #[])
          (w.setRow b (cs.toList.take (off * et.info.size + 0) ++ (Builtin.zeroCells z.cells len).toList ++ cs.toList.drop (off * et.info.size + 0 + (Builtin.zeroCells z.cells len).toList.length)).toArray) := by
        obtain ⟨m, rfl⟩ : ∃ m, len = m + 1 := ⟨len - 1, by omega⟩
        simp [Builtin.clear_, run_underlying hu, zeroValue, typeInfo, hi, hz, hstc]
      refine ⟨_, _, g, hrun, .tup _ _ rfl fun i hi => absurd hi (by simp), ?_⟩
      refine Stp.write hO hβ _ _ (by rw [hsz]; simp [szOf]) fun hm => .inr ⟨b, κ, _, T, hβ, setRow_heap w b cs _ T _ hh, by omega, ?_, fun i j hi hj => ?_⟩
      · simp only [Array.length_toList, hzl] at hfit ⊢
        simp [hzl]
        omega
      · have e3 := getD_seg undef cs.toList (off * et.info.size + 0) (Builtin.zeroCells z.cells len).toList (by simpa using hfit) (i * et.info.size + j)
        have e4 : ((cs.toList.take (off * et.info.size + 0) ++ (Builtin.zeroCells z.cells len).toList ++ cs.toList.drop (off * et.info.size + 0 + (Builtin.zeroCells z.cells len).toList.length)).toArray).getD (i * et.info.size + j) undef =
            if off * et.info.size ≤ i * et.info.size + j ∧ i * et.info.size + j < off * et.info.size + len * et.info.size then (Builtin.zeroCells z.cells len).getD (i * et.info.size + j - off * et.info.size) undef else cs.getD (i * et.info.size + j) undef := by
          rw [← arr_toList_getD, List.toList_toArray, e3]
          simp [arr_toList_getD, hzl]
        rw [e4]
        by_cases hin : off ≤ i ∧ i < off + len
        · have : (Nat.ble off i && Nat.blt i (off + len)) = true := by simp only [Bool.and_eq_true, Nat.ble_eq, Nat.blt_eq]; exact hin
          simp only [this, cond_true]
          have h4 : off * et.info.size ≤ i * et.info.size := Nat.mul_le_mul_right _ hin.1
          have h5 := in_row (i := i - off) (m := len) (by omega) hj
          have h6 : i * et.info.size + j - off * et.info.size = (i - off) * et.info.size + j := by rw [Nat.sub_mul]; omega
          rw [if_pos ⟨by omega, by omega⟩, h6, hone _ h5, (divmod hj).2]
          exact ⟨(hcell j hj).1.mono hm.S hm.cell, (hcell j hj).2⟩
        · have : (Nat.ble off i && Nat.blt i (off + len)) = false := by rw [Bool.eq_false_iff]; intro hh; simp only [Bool.and_eq_true, Nat.ble_eq, Nat.blt_eq] at hh; exact hin hh
          simp only [this, cond_false]
          have hno : ¬ (off * et.info.size ≤ i * et.info.size + j ∧ i * et.info.size + j < off * et.info.size + len * et.info.size) := by
            rintro ⟨q1, q2⟩
            rcases Nat.lt_or_ge i off with h7 | h7
            · have := in_row (i := i) (m := off) h7 hj; omega
            · rcases Nat.lt_or_ge i (off + len) with h8 | h8
              · exact hin ⟨h7, h8⟩
              · have h9 : (off + len) * et.info.size ≤ i * et.info.size := Nat.mul_le_mul_right _ h8
                rw [Nat.add_mul] at h9; omega
          rw [if_neg hno]
          exact ⟨(hr i j (by omega) hj).1.mono hm.S hm.cell, (hr i j (by omega) hj).2⟩
end
end Go.EV
namespace Go.EV
open Go Go.RowKit
set_option linter.unusedSimpArgs false
set_option linter.unusedVariables false

/-! ### one operation -/
def opE (τ : Ty) (own : Nat → Bool) (ρ : Operand → AV) (L : Obs) (o : Oper) : OT :=
  match o.op with
  | .move x => .val (ρ x) .no
  | .assign x => .val (ρ x) .no
  | .pick c a b => match ρ c with
    | .bool c => .br c (.val (ρ a) .no) (.val (ρ b) .no)
    | _ => .fail
  | .alloc t => allocE τ L o.dst t
  | .box _ x => boxE L o.dst (ρ x)
  | .build t parts => buildE τ t (parts.toList.map fun p => (p.1, ρ p.2))
  | .buildSlice t len parts => buildSliceE τ own L o.dst t len (parts.toList.map fun p => (p.1, ρ p.2))
  | .load t x => loadE τ L t (ρ x)
  | .store t a x => storeE τ L t (ρ a) (ρ x)
  | .nilCheck x => nilCheckE L (ρ x)
  | .binOp op t x y _ => binAE τ L op t (ρ x) (ρ y)
  | .unOp op _ x => unE op (ρ x)
  | .convert s d x => convB τ L s d (ρ x)
  | .makeFunc fn first captured => match fn, first.toList with
    | .func f, [] => .val (.fn f (captured.toList.map ρ)) .no
    | _, _ => .fail
  | .makeSlice t l c => makeSliceE τ L o.dst t (ρ l) (ρ c)
  | .slice t x lo hi mx => sliceE τ L t (ρ x) (lo.map ρ) (hi.map ρ) (mx.map ρ)
  | .fieldAddr t x f => fieldAddrE τ L t (ρ x) f
  | .field t x f => fieldE τ t (ρ x) f
  | .indexAddr t x i => indexAddrE τ L t (ρ x) (ρ i)
  | .index t x i => indexE τ t (ρ x) (ρ i)
  | .extract x i => extractE (ρ x) i
  | .call c => match c.callee with
    | .builtin b => match b, c.args.toList, c.argTypes.toList with
      | .len, [x], [t] => lenME τ L t (ρ x)
      | .append, [x, y], [t, t'] => bif Nat.beq t t' then appendE τ L o.dst t (ρ x) (ρ y) else .fail
      | .min, xs, _ => minmaxE mn (xs.map ρ)
      | .max, xs, _ => minmaxE mx (xs.map ρ)
      | .clear, [x], [t] => clearE τ L t (ρ x)
      | _, _, _ => .fail
    | _ => .fail
  | .makeMap t r => makeMapE τ L o.dst t (r.map ρ)
  | .lookup t x i ok => lookupE τ L t (ρ x) (ρ i) ok
  | .mapUpdate t m k x => mapUpdateE τ L t (ρ m) (ρ k) (ρ x)
  | .insert t m k x => mapUpdateE τ L t (ρ m) (ρ k) (ρ x)
  | .mapEntry t m k => mapEntryE τ L t (ρ m) (ρ k)
  | .entryStore _ m s x => entryStoreE L (ρ m) (ρ s) (ρ x)
  | .range t x => rangeE τ L o.dst t (ρ x)
  | .next x b => nextE L (ρ x) b
  | _ => .fail

section
variable {P : Program} {g : G} {L : Obs} {w : World}

/-- What is shown of an operation that stands for itself. -/
def ShowsO (P : Program) (g : G) (L : Obs) (w : World) (s : Sem Next) (v : AV) (e : Eff) : Prop :=
  ∃ u w' g', (s.run P w = .ok (.value u) w' ∨ (s.run P w = .ok .skip w' ∧ u = undef)) ∧ R g' (szf (e.app L)) w' v u ∧ Stp g L w g' (e.app L) w'

theorem Shows.o {s : Sem Value} {v : AV} {e : Eff} (h : Shows P g L w s v e) : ShowsO P g L w (do Pure.pure (Next.value (← s))) v e := by
  obtain ⟨u, w', g', h1, h2, h3⟩ := h
  exact ⟨u, w', g', .inl (by rw [Sem.run_bind, h1]; rfl), h2, h3⟩
theorem ShowsU.o {s : Sem Unit} {v : AV} {e : Eff} (h : ShowsU P g L w s v e) : ShowsO P g L w (do s; Pure.pure Next.skip) v e := by
  obtain ⟨w', g', h1, rfl, h3⟩ := h
  exact ⟨undef, w', g', .inr ⟨by rw [Sem.run_bind, h1]; rfl, rfl⟩, R.bad _, h3⟩

theorem map_getD (f : Operand → AV) (xs : List Operand) (i : Nat) (h : i < xs.length) : (xs.map f).getD i .bad = f (xs.getD i default) := by simp [List.getD, h]
theorem mapA_getD (f : Operand → Value) (xs : Array Operand) (i : Nat) (h : i < xs.size) : (xs.map f).getD i undef = f (xs.toList.getD i default) := by
  have h1 : i < (xs.map f).size := by simpa using h
  simp only [Array.getD_eq_getD_getElem?, Array.getElem?_eq_getElem h1, Option.getD_some, Array.getElem_map]
  simp [List.getD, h]

theorem PR_of {ρ : Operand → AV} {ρc : Operand → Value} (hρ : ∀ x, R g (szf L) w (ρ x) (ρc x)) (parts : Array (Nat × Operand)) :
    PR g (szf L) w (parts.toList.map fun p => (p.1, ρ p.2)) (parts.map fun (i, x) => (i, ρc x)).toList := by
  refine ⟨by simp, fun i hi => ?_⟩
  have hi : i < parts.size := by simpa using hi
  simp only [Array.toList_map, List.getD, List.getElem?_map, Array.getElem?_toList, Array.getElem?_eq_getElem hi, Option.map_some, Option.getD_some]
  exact ⟨by trivial, hρ _⟩

theorem guard_ok {op : BinOp} {t : TypeId} {x y : Operand} {a b : Value} (h : (∀ cs, a ≠ .agg cs) ∧ a ≠ .nilIface) : (eqGuard op t x y a b).run P w = .ok () w := by
  unfold eqGuard
  cases op <;> simp only [] <;> first
    | rfl
    | (cases a <;> first | (exact absurd rfl (h.1 _)) | (exact absurd rfl h.2) | rfl)

theorem binE_plain {τ : Ty} {op : BinOp} {t : TypeId} {x y : AV} {v : AV} {e : Eff} {a : Value} (hx : R g (szf L) w x a) (h : OT.Leaf v e (binE τ op t x y)) : (∀ cs, a ≠ .agg cs) ∧ a ≠ .nilIface := by
  unfold binE at h
  split at h
  · rw [hx.int_inv]; exact ⟨(fun _ h => nomatch h), (fun h => nomatch h)⟩
  · rw [hx.str_inv]; exact ⟨(fun _ h => nomatch h), (fun h => nomatch h)⟩
  · rw [hx.bool_inv]; exact ⟨(fun _ h => nomatch h), (fun h => nomatch h)⟩
  · exact h.elim

theorem nilCheckE_ok (hO : OR g L w) {x : AV} {a : Value} (hx : R g (szf L) w x a) {v : AV} {e : Eff} (h : OT.Leaf v e (nilCheckE L x)) {o : Oper} {ρc : Operand → Value} {op : Operand} (ho : o.op = .nilCheck op) (ha : ρc op = a) :
    ShowsO P g L w (execOp ρc o) v e := by
  have one : ∀ {v : AV}, R g (szf L) w v a → ((∃ p, a = .pointer (some p)) ∨ ∃ f cs, a = .func (.func f) #[] cs) → ShowsO P g L w (execOp ρc o) v .no := by
    intro v hv hc
    refine ⟨a, w, g, .inl ?_, hv, Stp.refl hO⟩
    simp only [execOp, ho, ha]
    rcases hc with ⟨p, rfl⟩ | ⟨f, cs, rfl⟩ <;> rfl
  unfold nilCheckE at h
  split at h
  · obtain ⟨he, rfl, rfl⟩ := refOK_leaf h
    obtain ⟨b, κ, hβ, rfl⟩ := ref_inv hx he
    exact one hx (.inl ⟨_, rfl⟩)
  · obtain ⟨rfl, rfl⟩ := h
    obtain ⟨b, o, c, rfl, _⟩ := hx.fp_inv.fp_inv
    exact one hx (.inl ⟨_, rfl⟩)
  · obtain ⟨rfl, rfl⟩ := h
    obtain ⟨cs, rfl, _⟩ := hx.fn_inv
    exact one hx (.inr ⟨_, _, rfl⟩)
  · exact h.elim

theorem max2_run (k k' : IntKind) (a b : Int) : (Builtin.max2 (.int k a) (.int k' b)).run P w = .ok (.int k (mx a b)) w := by simp [Builtin.max2, mx]
theorem min2_run (k k' : IntKind) (a b : Int) : (Builtin.min2 (.int k a) (.int k' b)).run P w = .ok (.int k (mn a b)) w := by simp [Builtin.min2, mn]

theorem RO_map {ρ : Operand → AV} {ρc : Operand → Value} (hρ : ∀ x, R g (szf L) w (ρ x) (ρc x)) (o : Option Operand) : RO g (szf L) w (o.map ρ) (o.map ρc) := by
  cases o with
  | none => exact .none
  | some x => exact .some (hρ x)

theorem opE_ok (hO : OR g L w) {τ : Ty} (hτ : TyOK P τ) {own : Nat → Bool} {ρ : Operand → AV} {ρc : Operand → Value} (hρ : ∀ x, R g (szf L) w (ρ x) (ρc x)) {o : Oper} {v : AV} {e : Eff}
    (h : OT.Leaf v e (opE τ own ρ L o)) : ShowsO P g L w (execOp ρc o) v e := by
  unfold opE at h
  split at h
  case h_1 x ho => obtain ⟨rfl, rfl⟩ := h; exact ⟨ρc x, w, g, .inl (by simp [execOp, ho]), hρ x, Stp.refl hO⟩
  case h_2 x ho => obtain ⟨rfl, rfl⟩ := h; exact ⟨ρc x, w, g, .inl (by simp [execOp, ho]), hρ x, Stp.refl hO⟩
  case h_3 c a b ho =>
    split at h
    · rename_i cb hc
      have hcv : ρc c = .bool cb := (hc ▸ hρ c).bool_inv
      rcases h with ⟨rfl, rfl, rfl⟩ | ⟨rfl, rfl, rfl⟩
      · exact ⟨ρc a, w, g, .inl (by simp [execOp, ho, hcv, asBool]), hρ a, Stp.refl hO⟩
      · exact ⟨ρc b, w, g, .inl (by simp [execOp, ho, hcv, asBool]), hρ b, Stp.refl hO⟩
    · exact h.elim
  case h_4 t ho => simp only [execOp, ho]; exact (allocE_ok hO hτ h).o
  case h_5 t x ho => simp only [execOp, ho]; exact (boxE_ok hO (hρ x) h).o
  case h_6 t parts ho => simp only [execOp, ho]; exact (buildE_ok hO hτ (PR_of hρ parts) h).o
  case h_7 t len parts ho => simp only [execOp, ho]; exact (buildSliceE_ok hO hτ (PR_of hρ parts) h).o
  case h_8 t x ho => simp only [execOp, ho]; exact ((loadE_ok hO hτ (hρ x) h).s hO).o
  case h_9 t a x ho => simp only [execOp, ho]; exact (storeE_ok hO hτ (hρ a) (hρ x) h).o
  case h_10 x ho => exact nilCheckE_ok hO (hρ x) h ho rfl
  case h_11 op t x y _ ho =>
    simp only [execOp, ho]
    exact (binAE_ok (P := P) hO hτ (hρ x) (hρ y) h (fun h' => guard_ok (binE_plain (hρ x) h'))).o
  case h_12 op t x ho => simp only [execOp, ho]; exact (unE_ok hO (hρ x) h).o
  case h_13 s d x ho => simp only [execOp, ho]; exact (convB_ok hO hτ (hρ x) h).o
  case h_14 fn first captured ho =>
    split at h
    · rename_i f hf
      obtain ⟨rfl, rfl⟩ := h
      have hf0 : first = #[] := by rw [← Array.toList_eq_nil_iff]; exact hf
      subst hf0
      refine ⟨.func (.func f) #[] (captured.map ρc), w, g, .inl (by simp [execOp, ho, Instr.makeFunc]), .fn _ _ _ (by simp) (fun i hi => ?_), Stp.refl hO⟩
      have hi : i < captured.toList.length := by simpa using hi
      rw [map_getD _ _ _ hi, mapA_getD _ _ _ (by simpa using hi)]
      exact hρ _
    · exact h.elim
  case h_15 t l c ho => simp only [execOp, ho]; exact (makeSliceE_ok hO hτ (hρ l) (hρ c) h).o
  case h_16 t x lo hi mx ho => simp only [execOp, ho]; exact (sliceE_ok hO hτ (hρ x) (RO_map hρ lo) (RO_map hρ hi) (RO_map hρ mx) h).o
  case h_17 t x f ho => simp only [execOp, ho]; exact (fieldAddrE_ok hO hτ (hρ x) h).o
  case h_18 t x f ho => simp only [execOp, ho]; exact (fieldE_ok hO hτ (hρ x) h).o
  case h_19 t x i ho => simp only [execOp, ho]; exact (indexAddrE_ok hO hτ (hρ x) (hρ i) h).o
  case h_20 t x i ho => simp only [execOp, ho]; exact (indexE_ok hO hτ (hρ x) (hρ i) h).o
  case h_21 x i ho => simp only [execOp, ho]; exact (extractE_ok hO (hρ x) h).o
  case h_22 c ho =>
    split at h
    · rename_i b hb
      have hres : ∀ s : Sem Value, builtin b c.argTypes o.type (c.args.map fun | .const _ => true | _ => false) (c.args.map ρc) = (do pure (Next.value (← s))) → execOp ρc o = (do pure (Next.value (← s))) := by
        intro s hs
        simp only [execOp, ho, resolve, hb]
        exact hs
      split at h
      · rename_i x t ha ht
        have ea : c.args = #[x] := Array.toList_inj.1 (by rw [ha])
        have et : c.argTypes = #[t] := Array.toList_inj.1 (by rw [ht])
        rw [hres _ rfl, ea, et, show (#[x] : Array Operand).map ρc = #[ρc x] by simp]
        exact (lenME_ok hO hτ (hρ x) h).o
      · rename_i x y t t' ha ht
        cases hbt : Nat.beq t t' with
        | false => rw [hbt] at h; exact h.elim
        | true =>
          rw [hbt] at h
          obtain rfl := Nat.eq_of_beq_eq_true hbt
          have ea : c.args = #[x, y] := Array.toList_inj.1 (by rw [ha])
          have et : c.argTypes = #[t, t] := Array.toList_inj.1 (by rw [ht])
          rw [hres _ rfl, ea, et, show (#[x, y] : Array Operand).map ρc = #[ρc x, ρc y] by simp]
          exact (appendE_ok hO hτ (hρ x) (hρ y) h).o
      · obtain ⟨k, n, u, r, rfl, rfl, hv, hr⟩ := minmaxE_run (g := g) (w := w) (P := P) (m2 := Builtin.min2) min2_run (vs := c.args.map ρc) (by simp) (fun i hi => by
          have hi : i < c.args.toList.length := by simpa using hi
          rw [map_getD _ _ _ hi, mapA_getD _ _ _ (by simpa using hi)]; exact hρ _) h
        rw [hres _ rfl]
        refine (Shows.pure hO (.int k n) ?_ (R.int _ _)).o
        simp only [Builtin.min_, hv]; exact hr
      · obtain ⟨k, n, u, r, rfl, rfl, hv, hr⟩ := minmaxE_run (g := g) (w := w) (P := P) (m2 := Builtin.max2) max2_run (vs := c.args.map ρc) (by simp) (fun i hi => by
          have hi : i < c.args.toList.length := by simpa using hi
          rw [map_getD _ _ _ hi, mapA_getD _ _ _ (by simpa using hi)]; exact hρ _) h
        rw [hres _ rfl]
        refine (Shows.pure hO (.int k n) ?_ (R.int _ _)).o
        simp only [Builtin.max_, hv]; exact hr
      · rename_i x t ha ht
        have ea : c.args = #[x] := Array.toList_inj.1 (by rw [ha])
        have et : c.argTypes = #[t] := Array.toList_inj.1 (by rw [ht])
        rw [hres _ rfl, ea, et, show (#[x] : Array Operand).map ρc = #[ρc x] by simp]
        exact (clearE_ok hO hτ (hρ x) h).o
      · exact h.elim
    · exact h.elim
  case h_23 t r ho => simp only [execOp, ho]; exact (makeMapE_ok hO hτ (RO_map hρ r) h).o
  case h_24 t x i ok ho => simp only [execOp, ho]; exact (lookupE_ok hO hτ (hρ x) (hρ i) h).o
  case h_25 t m k x ho => simp only [execOp, ho]; exact (mapUpdateE_ok hO hτ (hρ m) (hρ k) (hρ x) h).o
  case h_26 t m k x ho => simp only [execOp, ho]; exact (mapUpdateE_ok hO hτ (hρ m) (hρ k) (hρ x) h).o
  case h_27 t m k ho => simp only [execOp, ho]; exact (mapEntryE_ok hO hτ (hρ m) (hρ k) h).o
  case h_28 t m s x ho => simp only [execOp, ho]; exact (entryStoreE_ok hO (hρ m) (hρ s) (hρ x) h).o
  case h_29 t x ho => simp only [execOp, ho]; exact (rangeE_ok hO hτ (hρ x) h).o
  case h_30 x b ho => simp only [execOp, ho]; exact (nextE_ok hO (hρ x) h).o
  case h_31 => exact h.elim
end
end Go.EV
