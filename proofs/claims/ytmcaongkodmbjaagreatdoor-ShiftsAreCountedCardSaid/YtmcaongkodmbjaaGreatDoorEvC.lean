/- The engine: the library's functions, rows of laws. -/
import Derived.Test.YtmcaongkodmbjaaGreatDoorEvB
import Derived.Lib.AsciiSet
import Derived.WalkKit
import Derived.ProofKit
import Derived.OpenShut
import Derived.ShutString
import Derived.ChangeOld
import Derived.SizedLaws
import Derived.ChangeSlices
import Derived.ChangeSame
import Derived.ChangeVars
import Derived.JoinedOf
import Derived.LaidLaws
import Derived.Lay
import Derived.LaidOnce
import Derived.SevenTiedAt
import Derived.Handed
import Derived.HandedShaped
import Derived.Lib.LaidTab
import Derived.Shelf.Vars
import Derived.Sort.Grow
import Derived.Shelf.Strings.BuilderK
import Derived.Shelf.Spec.SlicesGrow
import Derived.Shelf.SlIter.Nil
import Derived.Sort.KeysCollected
import Derived.Sort.EncStr
import Derived.Lib.SlicesCompact
set_option linter.unusedVariables false
set_option linter.unusedSimpArgs false
namespace Go.EV
open Go Go.RowKit
set_option linter.unusedSimpArgs false
set_option linter.unusedVariables false

theorem rep_set {α : Type} {E : Enc α} {l : List α} {i : Int} {off : Nat} {ys : List AV} {x : α} (h0 : 0 ≤ i) (h1 : i < (l.length : Int)) (h : ∀ j, j < E.w → (bif Nat.ble off j && Nat.blt j (off + ys.length) then ys.getD (j - off) .bad else E.c (l.getD i.toNat E.d) j) = E.c x j) :
    ∀ a j, a < l.length → j < E.w → putF (rep E l) (addO 0 i.toNat) off ys a j = rep E (l.set i.toNat x) a j := by
  intro a j ha hj
  rw [addO_eq, Nat.zero_add]
  unfold putF rep
  by_cases c : a = i.toNat
  · subst c
    have := h j hj
    simp only [Nat.beq_refl, Bool.true_and]
    rw [this]
    simp [List.getD, ha]
  · rw [beq_ne c, Bool.false_and, cond_false]
    simp [List.getD, List.getElem?_set, Ne.symm c]
/-- A second store into what a store has changed, in one drawn region. -/
theorem LeO.setE2 {α : Type} {E : Enc α} {l l' : List α} {f : Nat → Nat → AV} {i : Int} {off : Nat} {ys : List AV} {x : α} (hl : l'.length = l.length) (hf : ∀ a j, a < l.length → j < E.w → f a j = rep E l' a j) (h0 : 0 ≤ i) (h1 : i < (l.length : Int))
    (h : ∀ j, j < E.w → (bif Nat.ble off j && Nat.blt j (off + ys.length) then ys.getD (j - off) .bad else E.c (l'.getD i.toNat E.d) j) = E.c x j) :
    LeO (.buf l.length E.w (putF f (addO 0 i.toNat) off ys)) (bufE E (l'.set i.toNat x)) := by
  refine LeO.buf (by simp [hl]) fun a j ha hj => ?_
  have h1' : i < (l'.length : Int) := by omega
  rw [← rep_set (E := E) h0 h1' h a j (by omega) hj]
  unfold putF
  rw [hf a j ha hj]
/-! ### what is known of package-level variables -/
def blkB (bl : List Nat) (Φ : World → Prop) (h : ∀ w w' : World, (∀ b ∈ bl, w'.heap[b]? = w.heap[b]?) → Φ w → Φ w') : Bs :=
  ⟨fun g w => (∀ b ∈ bl, b < w.heap.size ∧ ¬ g.own b) ∧ Φ w, by
    rintro g w g' w' hf ⟨h1, h2⟩
    exact ⟨fun b hb => ⟨Nat.lt_of_lt_of_le (h1 b hb).1 hf.size, fun ho => (hf.own b ho).elim (h1 b hb).2 (fun h' => by have := (h1 b hb).1; omega)⟩,
      h w w' (fun b hb => hf.heap b (h1 b hb).1 (h1 b hb).2) h2⟩⟩

/-! ### functions of the library, by contracts of theirs -/
def plain1 : AV → Option Value
  | .int k n => some (.int k n)
  | .bool b => some (.bool b)
  | .str s => some (.string s)
  | _ => none
def plainL : List AV → Option (List Value)
  | [] => some []
  | x :: r => match plain1 x, plainL r with
    | some u, some us => some (u :: us)
    | _, _ => none
def plainV : AV → Option Value
  | .tup xs => (plainL xs).map fun us => .tuple us.toArray
  | x => plain1 x

section
variable {P : Program} {B : Bs} {g : G} {L : Obs} {w w' : World} {sz : Nat → Nat}

theorem R.plain1 {x : AV} {u v : Value} (h : plain1 x = some u) (hR : R g sz w x v) : v = u := by
  cases x <;> simp only [Go.EV.plain1] at h <;> try (cases h; done)
  · cases h; exact hR.int_inv
  · cases h; exact hR.bool_inv
  · cases h; exact hR.str_inv
theorem R_plain1 {x : AV} {u : Value} (h : plain1 x = some u) : R g sz w x u := by
  cases x <;> simp only [Go.EV.plain1] at h <;> try (cases h; done)
  · cases h; exact R.int _ _
  · cases h; exact R.bool _
  · cases h; exact R.str _
theorem plain1_one {x : AV} {u : Value} (h : plain1 x = some u) : u.oneCell' = true := by
  cases x <;> simp only [Go.EV.plain1] at h <;> try (cases h; done)
  all_goals (cases h; rfl)
theorem F_plain1 {S : Nat → Prop} {x : AV} {u : Value} (h : plain1 x = some u) : F S w x u := by
  cases x <;> simp only [Go.EV.plain1] at h <;> try (cases h; done)
  · cases h; exact .int _ _
  · cases h; exact .bool _
  · cases h; exact .str _
theorem plainL_get : ∀ {xs : List AV} {us : List Value}, plainL xs = some us → us.length = xs.length ∧ ∀ i, i < xs.length → plain1 (xs.getD i .bad) = some (us.getD i undef)
  | [], us, h => by cases h; exact ⟨rfl, fun i hi => absurd hi (by simp)⟩
  | x :: r, us, h => by
    simp only [plainL] at h
    split at h
    · rename_i u us' h1 h2
      cases h
      obtain ⟨h3, h4⟩ := plainL_get h2
      refine ⟨by simp [h3], fun i hi => ?_⟩
      cases i with
      | zero => simpa [List.getD] using h1
      | succ i => have := h4 i (by simpa using hi); simpa [List.getD] using this
    · cases h
theorem R_plainV {x : AV} {u : Value} (h : plainV x = some u) : R g sz w x u := by
  unfold plainV at h
  split at h
  · rename_i xs
    simp only [Option.map_eq_some_iff] at h
    obtain ⟨us, h1, rfl⟩ := h
    obtain ⟨h2, h3⟩ := plainL_get h1
    exact .tup _ _ (by simpa using h2) fun i hi => by
      have := h3 i hi
      simpa [List.getD, Array.getD_eq_getD_getElem?] using R_plain1 (g := g) (sz := sz) (w := w) this
  · exact R_plain1 h
theorem plain_args {xs : List AV} {us : List Value} {vs : Array Value} (h : plainL xs = some us) (hs : vs.size = xs.length) (hr : ∀ i, i < xs.length → R g sz w (xs.getD i .bad) (vs.getD i undef)) : vs = us.toArray := by
  obtain ⟨h1, h2⟩ := plainL_get h
  apply Array.ext
  · simpa [h1] using hs
  · intro i hi hi2
    have hi3 : i < xs.length := by omega
    have := (hr i hi3).plain1 (h2 i hi3)
    have hi4 : i < us.length := by omega
    simpa [List.getD, hi, hi4] using this

theorem below_Mo (hO : OR g L w) (hb : Below w.heap.size w w') : Mo g sz w g sz w' :=
  ⟨fun _ h => h, fun b o h => cell_eq (hb.block b (hO.fz b h)) o, fun _ => .inr (.inl ⟨rfl, rfl⟩)⟩
theorem OR.below (hO : OR g L w) (hb : Below w.heap.size w w') : OR g L w' :=
  ⟨fun s o h => (hO.ob s o h).mono (below_Mo hO hb) rfl (fun b κ h => hb.block b (hO.own s b κ h).2.1), fun s b κ h => ⟨(hO.own s b κ h).1, Nat.lt_of_lt_of_le (hO.own s b κ h).2.1 hb.size, (hO.own s b κ h).2.2⟩, hO.inj, fun b h => Nat.lt_of_lt_of_le (hO.fz b h) hb.size⟩
theorem Fr.below (hb : Below w.heap.size w w') : Fr g w g w' :=
  ⟨hb.os, hb.tape, hb.output, hb.size, fun b h _ => hb.block b h, fun _ h => h, fun _ h => .inl h, fun _ h => .inl h⟩

/-- Plain arguments, a plain result. -/
theorem Ct.lib {f : FuncId} {args : List AV} {us : List Value} {u : Value} {v : AV} (hc : ∀ (vs : Array Value) (w : World), (callFunc f vs).run P w = .ok (.enter f vs) w) (ha : plainL args = some us) (hv : plainV v = some u)
    (h : ∀ g w, B.p g w → Calls P f us.toArray w fun e w' => e = .returned u ∧ Below w.heap.size w w') : Ct P B f args (ofL []) v (ofL []) := by
  intro g w vs hs hr hO hB
  unfold Ent
  rw [hc]
  obtain rfl := plain_args ha hs hr
  refine (h g w hB).mono fun e w' ⟨he, hb⟩ => ?_
  exact ⟨u, he, g, R_plainV hv, hO.below hb, Fr.below hb, fun s hs => by cases hs⟩

/-- New memory that nobody else names. -/
theorem fz_new (hO : OR g L w) (hb : Below w.heap.size w w') : OR ⟨fun b => g.S b ∨ (w.heap.size ≤ b ∧ b < w'.heap.size), g.β⟩ L w' ∧ Fr g w ⟨fun b => g.S b ∨ (w.heap.size ≤ b ∧ b < w'.heap.size), g.β⟩ w' := by
  have hm : Mo g (szf L) w ⟨fun b => g.S b ∨ (w.heap.size ≤ b ∧ b < w'.heap.size), g.β⟩ (szf L) w' := ⟨fun _ h => .inl h, fun b o h => cell_eq (hb.block b (hO.fz b h)) o, fun _ => .inr (.inl ⟨rfl, rfl⟩)⟩
  refine ⟨⟨fun s o h => (hO.ob s o h).mono hm rfl (fun b κ h => hb.block b (hO.own s b κ h).2.1), fun s b κ h => ?_, hO.inj, fun b h => ?_⟩, ⟨hb.os, hb.tape, hb.output, hb.size, fun b h _ => hb.block b h, fun _ h => .inl h, fun b h => ?_, fun _ h => .inl h⟩⟩
  · obtain ⟨h1, h2, h3⟩ := hO.own s b κ h
    exact ⟨h1, Nat.lt_of_lt_of_le h2 hb.size, fun h4 => h4.elim h3 (fun h5 => by omega)⟩
  · rcases h with h | h
    · exact Nat.lt_of_lt_of_le (hO.fz b h) hb.size
    · exact h.2
  · rcases h with h | h
    · exact .inl h
    · exact .inr (.inr h.1)

/-- A slice of a list's elements in memory of its own, or none. -/
def NewSl {α : Type} (E : Enc α) (l : List α) (w : World) (v : Value) (w' : World) : Prop :=
  ∃ a cap, v = .slice a l.length cap ∧ l.length ≤ cap ∧ Below w.heap.size w w' ∧ (0 < l.length → ∃ b cs T, a = some ⟨b, 0, none⟩ ∧ w.heap.size ≤ b ∧ w'.heap[b]? = some (.cells cs T (0, 0)) ∧ cs.size = cap * E.w ∧
    ∀ i j, i < l.length → j < E.w → plain1 (rep E l i j) = some (cs.getD (i * E.w + j) undef))

theorem NewSl.fz {α : Type} {E : Enc α} {l : List α} {v : Value} (hO : OR g L w) (h : NewSl E l w v w') :
    ∃ g', R g' (szf L) w' (sq E l) v ∧ OR g' L w' ∧ Fr g w g' w' ∧ g'.β = g.β := by
  obtain ⟨a, cap, rfl, hcap, hb, hin⟩ := h
  obtain ⟨h1, h2⟩ := fz_new hO hb
  refine ⟨_, ?_, h1, h2, rfl⟩
  rcases Nat.eq_zero_or_pos l.length with h0 | h0
  · unfold sq; rw [h0]; exact .fz _ _ (.sl0 _ _ _ _)
  · obtain ⟨b, cs, T, rfl, hbs, hh, hcs, hp⟩ := hin h0
    refine .fz _ _ (.sl _ _ _ b 0 cap (fun i j => cs.getD (i * E.w + j) undef) (.inr ⟨hbs, (Array.getElem?_eq_some_iff.1 hh).1⟩) hcap (fun i j hi hj => ?_) (fun i j hi hj => F_plain1 (hp i j hi hj)) (fun i j hi hj => plain1_one (hp i j hi hj)))
    have := cell_of hh (o := 0 + i * E.w + j) (by rw [hcs, Nat.zero_add]; exact in_row (by omega) hj)
    simpa using this

/-- Plain arguments, and a new slice. -/
theorem Ct.libS {α : Type} {E : Enc α} {f : FuncId} {args : List AV} {us : List Value} {l : List α} (hc : ∀ (vs : Array Value) (w : World), (callFunc f vs).run P w = .ok (.enter f vs) w) (ha : plainL args = some us)
    (h : ∀ g w, B.p g w → Calls P f us.toArray w fun e w' => ∃ v, e = .returned v ∧ NewSl E l w v w') : Ct P B f args (ofL []) (sq E l) (ofL []) := by
  intro g w vs hs hr hO hB
  unfold Ent
  rw [hc]
  obtain rfl := plain_args ha hs hr
  refine (h g w hB).mono fun e w' ⟨v, he, hn⟩ => ?_
  obtain ⟨g', h1, h2, h3, h4⟩ := hn.fz hO
  exact ⟨v, he, g', h1, h2, h3, fun s hs => by cases hs⟩

/-- Where a list's elements lie. -/
def HasSl {α : Type} (E : Enc α) (l : List α) (w : World) (v : Value) : Prop :=
  ∃ a cap, v = .slice a l.length cap ∧ (0 < l.length → ∃ b o, a = some ⟨b, o, none⟩ ∧ b < w.heap.size ∧ l.length ≤ cap ∧ ∀ i j, i < l.length → j < E.w → ∀ u, plain1 (rep E l i j) = some u → w.cell? ⟨b, o + i * E.w + j, none⟩ = some u)
theorem F.plain {S : Nat → Prop} {x : AV} {u v : Value} (h : plain1 x = some u) (hF : F S w x v) : v = u :=
  R.plain1 (g := ⟨S, fun _ => none⟩) (sz := fun _ => 0) h (.fz _ _ hF)
theorem F.sl_cap {S : Nat → Prop} {n n' w' : Nat} {f : Nat → Nat → AV} {a : Option Addr} {cap : Nat} (h : F S w (.sl n w' f) (.slice a n' cap)) (h0 : 0 < n) : n ≤ cap := by
  cases h with
  | sl0 => omega
  | sl _ _ _ _ _ _ _ _ hn => exact hn
theorem HasSl.of {α : Type} {E : Enc α} {l : List α} {v : Value} (hO : OR g L w) (h : R g sz w (sq E l) v) : HasSl E l w v := by
  obtain ⟨a, cap, rfl, hin⟩ := h.sl_inv.sl_inv
  refine ⟨a, cap, rfl, fun h0 => ?_⟩
  obtain ⟨b, o, c, rfl, hS, hc, hf, _⟩ := hin h0
  have hcap : l.length ≤ cap := F.sl_cap h.sl_inv h0
  exact ⟨b, o, rfl, hO.fz b hS, hcap, fun i j hi hj u hu => by rw [hc i j hi hj, (hf i j hi hj).plain hu]⟩
end

section
variable {P : Program} {B : Bs}
/-- A function of the library that reads a slice, and plain values behind it. -/
theorem Ct.libA {α : Type} {E : Enc α} {l : List α} {f : FuncId} {args : List AV} {us : List Value} {u : Value} {v : AV} (hc : ∀ (vs : Array Value) (w : World), (callFunc f vs).run P w = .ok (.enter f vs) w) (ha : plainL args = some us) (hv : plainV v = some u)
    (h : ∀ g w x, B.p g w → HasSl E l w x → Calls P f (x :: us).toArray w fun e w' => e = .returned u ∧ Below w.heap.size w w') : Ct P B f (sq E l :: args) (ofL []) v (ofL []) := by
  intro g w vs hs hr hO hB
  unfold Ent
  rw [hc]
  obtain ⟨h1, h2⟩ := plainL_get ha
  have h0 := hr 0 (by simp)
  have e : vs = (vs.getD 0 undef :: us).toArray := by
    apply Array.ext
    · simp [h1] at hs ⊢; omega
    · intro i hi hi2
      cases i with
      | zero => simp [Array.getD, hi]
      | succ i =>
        have hi3 : i < args.length := by simp at hs; omega
        have := hr (i + 1) (by simp; omega)
        simp only [List.getD_cons_succ] at this
        have h3 := R.plain1 (h2 i hi3) this
        have h4 : i < us.length := by omega
        simp only [List.getElem_toArray, List.getElem_cons_succ]
        have h5 : vs.getD (i + 1) undef = vs[i + 1] := by simp [Array.getD, hi]
        have h6 : us.getD i undef = us[i] := by simp [List.getD, h4]
        rw [← h5, h3, h6]
  rw [e]
  refine (h g w _ hB (HasSl.of hO h0)).mono fun e w' ⟨he, hb⟩ => ?_
  exact ⟨u, he, g, R_plainV hv, hO.below hb, Fr.below hb, fun s hs => by cases hs⟩
end

/-! ### maps as lists of pairs -/
theorem map_end {α β : Type} {l : List (α × β)} {d : β} : (l.map Prod.snd).getD (l.map Prod.fst).length d = d := by simp [List.getD]
section
variable {α β : Type} [BEq α] [LawfulBEq α]
def mget (d : β) (l : List (α × β)) (k : α) : β := (l.map Prod.snd).getD ((l.map Prod.fst).idxOf k) d
def mhas (l : List (α × β)) (k : α) : Bool := (l.map Prod.fst).contains k
def mput (l : List (α × β)) (k : α) (v : β) : List (α × β) := if k ∈ l.map Prod.fst then l.set ((l.map Prod.fst).idxOf k) (k, v) else l ++ [(k, v)]
def ment (d : β) (l : List (α × β)) (k : α) : List (α × β) := if k ∈ l.map Prod.fst then l else l ++ [(k, d)]
def mapE (K : List α → KL) (d : β) (c : β → AV) (l : List (α × β)) : Ob := .mp (K (l.map Prod.fst)) fun i => c ((l.map Prod.snd).getD i d)

theorem mput_keys (l : List (α × β)) (k : α) (v : β) : (mput l k v).map Prod.fst = if k ∈ l.map Prod.fst then l.map Prod.fst else l.map Prod.fst ++ [k] := by
  unfold mput
  split
  · rename_i h
    apply List.ext_getElem?
    intro i
    have hi := List.idxOf_lt_length_iff.2 h
    rw [List.map_set, List.getElem?_set]
    split
    · rename_i e
      subst e
      rw [List.getElem?_eq_getElem hi]
      simp
    · rfl
  · simp
theorem mput_vals (l : List (α × β)) (k : α) (v d : β) (i : Nat) (hi : i < (mput l k v).length) : ((mput l k v).map Prod.snd).getD i d = bif Nat.beq i ((l.map Prod.fst).idxOf k) then v else (l.map Prod.snd).getD i d := by
  unfold mput at hi ⊢
  split
  · rename_i h
    rw [if_pos h] at hi
    have hk := List.idxOf_lt_length_iff.2 h
    by_cases e : i = (l.map Prod.fst).idxOf k
    · subst e
      have : (l.map Prod.fst).idxOf k < l.length := by simpa using hk
      rw [beq_self]; simp [List.getD, List.map_set, this]
    · rw [beq_ne e]; simp [List.getD, List.map_set, List.getElem?_set_ne (Ne.symm e)]
  · rename_i h
    rw [if_neg h] at hi
    have hk : (l.map Prod.fst).idxOf k = l.length := by
      have h1 := mt List.idxOf_lt_length_iff.1 h
      have h2 := List.idxOf_le_length (l := l.map Prod.fst) (a := k)
      simp at h1 h2; omega
    rw [hk]
    by_cases e : i = l.length
    · subst e; rw [beq_self]; simp [List.getD]
    · have : i < l.length := by simp at hi; omega
      rw [beq_ne e]; simp [List.getD, List.getElem?_append_left, this]
end
/-- Maps whose keys are the same, and whose values, as far as there are keys. -/
theorem LeO.mp {ks : KL} {f f' : Nat → AV} (h : ∀ i, i < ks.len → f i = f' i) : LeO (.mp ks f) (.mp ks f') := by
  refine ⟨rfl, fun g sz w s r => ?_⟩
  obtain ⟨b, κ, ms, h1, h2, h3, h4⟩ := r
  exact ⟨b, κ, ms, h1, h2, h3, fun i hi => ⟨(h4 i hi).1, by rw [← h i (by rw [← ms_len h3]; exact hi)]; exact (h4 i hi).2.1, (h4 i hi).2.2⟩⟩
theorem LeO.mp2 {ks ks' : KL} {f f' : Nat → AV} (e : ks = ks') (h : ∀ i, i < ks'.len → f i = f' i) : LeO (.mp ks f) (.mp ks' f') := by subst e; exact LeO.mp h
section
variable {β : Type} {c : β → AV} {d : β}
theorem LeO.putS {l : List (ByteArray × β)} {k : ByteArray} {v : β} : LeO (.mp ((KL.strs (l.map Prod.fst)).put (.str k)) fun i => bif Nat.beq i ((l.map Prod.fst).idxOf k) then c v else c ((l.map Prod.snd).getD i d)) (mapE KL.strs d c (mput l k v)) :=
  LeO.mp2 (by rw [mput_keys]; rfl) fun i hi => by
    rw [mput_vals l k v d i (by simpa [KL.len] using hi)]
    cases Nat.beq i ((l.map Prod.fst).idxOf k) <;> rfl
theorem LeO.putI {q : IntKind} {l : List (Int × β)} {k : Int} {v : β} : LeO (.mp ((KL.ints q (l.map Prod.fst)).put (.int q k)) fun i => bif Nat.beq i ((l.map Prod.fst).idxOf k) then c v else c ((l.map Prod.snd).getD i d)) (mapE (KL.ints q) d c (mput l k v)) :=
  LeO.mp2 (by rw [mput_keys]; rfl) fun i hi => by
    rw [mput_vals l k v d i (by simpa [KL.len] using hi)]
    cases Nat.beq i ((l.map Prod.fst).idxOf k) <;> rfl
end
theorem ent_in {α : Type} [BEq α] [LawfulBEq α] (l : List α) (k : α) : ((l.idxOf k : Nat) : Int).toNat < (if k ∈ l then l else l ++ [k]).length := by
  by_cases h : k ∈ l
  · rw [if_pos h]; simpa using List.idxOf_lt_length_iff.2 h
  · rw [if_neg h]
    have := List.idxOf_le_length (l := l) (a := k)
    simp; omega
theorem ent_ok {α : Type} [BEq α] [LawfulBEq α] {l : List α} {k : α} : 0 ≤ ((l.idxOf k : Nat) : Int) ∧ ((l.idxOf k : Nat) : Int) < ((if k ∈ l then l else l ++ [k]).length : Int) := by
  have := ent_in l k
  omega
end Go.EV
namespace Go.EV
open Go Go.RowKit
/-- A new slice of strings. -/
theorem newS {w : World} {T : TypeId} {l : List ByteArray} {n : Nat} (hl : l.length = n) : NewSl eS l w (.slice (some ⟨w.heap.size, 0, none⟩) n n) (w.alloc (.cells (l.map Value.string).toArray T)) := by
  subst hl
  refine ⟨_, _, rfl, Nat.le_refl _, (Below.refl _ _).alloc (Nat.le_refl _) _, fun _ => ⟨w.heap.size, _, T, rfl, Nat.le_refl _, push_new w _, by simp [eS], fun i j hi hj => ?_⟩⟩
  obtain rfl : j = 0 := by simp [eS] at hj; omega
  simp [rep, eS, plain1, List.getD, hi]
def asciiT (s : ByteArray) : Bool := s.data.toList.all fun b => decide (b.toNat < 128)
theorem asciiT_at {s : ByteArray} (h : asciiT s = true) : ∀ (j : Nat) (b : UInt8), s.data.toList[j]? = some b → b.toNat < 128 :=
  fun _ b hb => of_decide_eq_true (List.all_eq_true.1 h b (List.mem_of_getElem? hb))
/-! ### a set of bytes as 256 Bools (strings.asciiSet) -/
theorem Ct.libR {P : Program} {B : Bs} {f : FuncId} {args : List AV} {us : List Value} {u : Value} {v : AV} (hc : ∀ (vs : Array Value) (w : World), (callFunc f vs).run P w = .ok (.enter f vs) w) (ha : plainL args = some us) (hv : ∀ (g : G) (sz : Nat → Nat) (w : World), R g sz w v u)
    (h : ∀ g w, B.p g w → Calls P f us.toArray w fun e w' => e = .returned u ∧ Below w.heap.size w w') : Ct P B f args (ofL []) v (ofL []) := by
  intro g w vs hs hr hO hB
  unfold Ent
  rw [hc]
  obtain rfl := plain_args ha hs hr
  refine (h g w hB).mono fun e w' ⟨he, hb⟩ => ?_
  exact ⟨u, he, g, hv _ _ _, hO.below hb, Fr.below hb, fun s hs => by cases hs⟩
def setA (c : ByteArray) : List AV := (List.range 256).map fun j => AV.bool (c.data.toList.contains (UInt8.ofNat j))
theorem setA_len (c : ByteArray) : (setA c).length = 256 := by simp [setA]
theorem box_cell {g : G} {sz : Nat → Nat} {w : World} {c : ByteArray} (h : ObR g sz w 0 (.box (setA c))) : ∃ b κ, g.β 0 = some (b, κ) ∧ ∀ x : UInt8, w.cell? ⟨b, x.toNat, none⟩ = some (.bool (c.data.toList.contains x)) := by
  obtain ⟨b, κ, cs, T, hβ, hh, hn, hr⟩ := h
  refine ⟨b, κ, hβ, fun x => ?_⟩
  have hx : x.toNat < 256 := UInt8.toNat_lt x
  have h1 := hr x.toNat (by rw [setA_len]; exact hx)
  have e : (setA c).getD x.toNat .bad = .bool (c.data.toList.contains x) := by
    simp only [setA, List.getD, List.getElem?_map, List.getElem?_range hx, Option.map_some, Option.getD_some]
    simp
  rw [e] at h1
  have h2 := h1.bool_inv
  have := cell_of hh (o := x.toNat) (by rw [hn, setA_len]; exact hx)
  rw [this, h2]
theorem putL_all {xs ys : List AV} (h : ys.length = xs.length) : putL xs 0 ys = ys := by
  simp [putL, h]
theorem LeO.putA {xs ys zs : List AV} (h : ys.length = xs.length) (e : ys = zs) : LeO (.box (putL xs 0 ys)) (.box zs) := by
  subst e
  rw [putL_all h]
  exact LeO.refl _
end Go.EV
namespace Go.EV
open Go Go.RowKit
open Go.ChangeShapes Go.WideShapes Go.ChangeAt
set_option linter.unusedVariables false

/-! ### rows of laws over a slice of ints -/
theorem sized_ints {H : Type} {enc : TypeId × Value → H} {P : Program} {W : World} {base : Nat} {spare : Nat → Bool} {held : Bool} {t e : TypeId} {k : IntKind} {a : Option Addr} {len cap : Nat} {d : DataW H} {ps : List MemPlace} {ts : List TypeId} {ds : List (DataW H)} {j : Nat}
    (hsz : (DataW.weightsEach P ts ds).all (· ≤ reachBytes) = true) (ht : ts[j]? = some t) (hd : ds[j]? = some d) (hu : P.underlying t = some (.slice e)) (he : P.underlying e = some (.int k)) (hc : P.cellsOf e = 1) {B : Nat} (hB : P.bytesOf e = B)
    (h : DataW.Trod enc P W base spare held t (.slice a len cap) d ps) : len * B ≤ 140737488351232 := by
  obtain ⟨fuel, hf⟩ := h
  rcases open_ints hu he hc hf with ⟨hcs, _⟩ | ⟨x, l, c, zs, hcs, _, hl, _, hz, hx, _, _⟩
  · simp [Value.cells] at hcs
    obtain ⟨rfl, rfl, rfl⟩ := hcs
    simp
  · simp [Value.cells] at hcs
    obtain ⟨rfl, rfl, rfl⟩ := hcs
    obtain ⟨hx, _⟩ := Prod.mk.inj hx
    subst hx
    have z := sized_slice hsz ht hd hu
    rw [hB] at z
    have hl2 : len ≤ zs.length := by
      rw [hz]
      split
      · exact hl
      · exact Nat.le_refl _
    have h1 : (lits (H := H) k (zs.take len)).length + (lits (H := H) k (zs.drop len)).length = zs.length := by
      simp [lits]
      omega
    rw [h1] at z
    exact Nat.le_trans (Nat.mul_le_mul_right _ hl2) z

def IsRow (k : IntKind) (w : World) (a : Option Addr) (len cap : Nat) (zs : List Int) : Prop :=
  (a = none ∧ len = 0 ∧ cap = 0 ∧ zs = []) ∨
  ∃ x, a = some x ∧ len ≤ cap ∧ cap ≤ maxLen ∧ zs.length = cap ∧ (∀ i, i < zs.length → w.cell? (x.add i) = some (.int k (zs.getD i 0))) ∧ ∀ n ∈ zs, (Lit.int k n).wf = true

/-- A law over a slice of ints, out of what it does. -/
theorem Ct.law {P : Program} {B : Bs} {f : FuncId} {a : Option Addr} {len cap : Nat} {zs : List Int} {W : World} (hz : IsRow .i64 W a len cap zs) (hB : ∀ g : G, (∀ b, ¬ g.own b) → B.p g W)
    (hc : ∀ (vs : Array Value) (w : World), (callFunc f vs).run P w = .ok (.enter f vs) w) (h : Ct P B f [sq eI (zs.take len)] (ofL []) (.bool true) (ofL [])) :
    Calls P f #[.slice a len cap] W fun e W' => e = .returned (.bool true) ∧ Below W.heap.size W W' := by
  have hlen : len ≤ zs.length := by rcases hz with ⟨_, h, _, h2⟩ | ⟨x, _, h1, _, h2, _⟩ <;> simp_all
  have hS : ∃ S : Nat → Prop, (∀ b, S b → b < W.heap.size) ∧ F S W (sq eI (zs.take len)) (.slice a len cap) := by
    rcases hz with ⟨rfl, rfl, rfl, rfl⟩ | ⟨x, rfl, h1, h2, h3, h4, _⟩
    · exact ⟨fun _ => False, fun b h => h.elim, .sl0 _ _ _ _⟩
    · rcases Nat.eq_zero_or_pos len with rfl | h0
      · exact ⟨fun _ => False, fun b h => h.elim, by simp [sq]; exact .sl0 _ _ _ _⟩
      · obtain ⟨b, o, sp⟩ := x
        have c0 := h4 0 (by omega)
        have hsp : sp = none := by
          cases sp with
          | none => rfl
          | some s => exfalso; simp [Addr.add, World.cell?] at c0; split at c0 <;> cases c0
        subst hsp
        have hb : b < W.heap.size := by
          rw [show (⟨b, o, none⟩ : Addr).add 0 = ⟨b, o, none⟩ from rfl] at c0
          unfold World.cell? at c0
          cases e : W.heap[b]? with
          | none => rw [show (⟨b, o, none⟩ : Addr).block = b from rfl, e] at c0; cases c0
          | some _ => exact (Array.getElem?_eq_some_iff.1 e).1
        refine ⟨fun b' => b' = b, fun b' h => h ▸ hb, ?_⟩
        have e1 : (zs.take len).length = len := by simp; omega
        unfold sq
        rw [e1]
        refine .sl _ _ _ b o cap (fun i j => .int .i64 ((zs.take len).getD i 0)) rfl h1 (fun i j hi hj => ?_) (fun i j hi hj => .int _ _) (fun i j hi hj => rfl)
        have hj : j = 0 := by simp [eI] at hj; omega
        subst hj
        have := h4 i (by omega)
        rw [Addr.add_at] at this
        simp [eI, List.getD, hi] at this ⊢
        exact this
  obtain ⟨S, hS1, hS2⟩ := hS
  let g : G := ⟨S, fun _ => none⟩
  have hown : ∀ b, ¬ g.own b := fun b ⟨s, κ, h⟩ => by cases h
  have hO : OR g (ofL []) W := ⟨fun s o h => (nomatch h), fun s b κ h => (nomatch h), fun s s' b κ κ' h => (nomatch h), hS1⟩
  have hE := h g W #[.slice a len cap] rfl (fun i hi => by
    obtain rfl : i = 0 := by simp at hi; omega
    exact .fz _ _ hS2) hO (hB g hown)
  unfold Ent at hE
  rw [hc] at hE
  refine hE.mono fun e W' ⟨u, he, g', hR, _, hf, _⟩ => ?_
  rw [he, hR.bool_inv]
  exact ⟨rfl, hf.os, hf.tape, hf.out, hf.size, fun b hb => hf.heap b hb (hown b)⟩

/-! ### rows whose variables are laid, with the world's shape -/
section
variable {H : Type} {enc : TypeId × Value → H}
theorem returnsInHanded_laid_shaped {a : Assume} {C : Checked} {os : Os} {f : FuncId} {fn : Func} {s : ChangeSpec} {conds : List PathCond} {apart fresh handsOn again : Bool} {X : World → Array Value → Prop}
    (hX : ∀ (w w' : World) (args : Array Value), w.heap = w'.heap → X w args → X w' args)
    (own : ownKnob C.prog.godebug = none) (started : os.Started) (noInit : C.prog.inits.idxOf? f = none) (hfn : C.prog.funcs[f]? = some fn)
    (witness : ∃ (w : World) (tape : Tape) (i : Input), w.os = os ∧ (w.forCall tape i).Shaped C.prog ∧ i.vars = [] ∧ Input.okWide C.prog (w.forCall tape i) .any w.heap.size f i ∧
      ((s.pre enc C.prog fn conds apart (w.forCall tape i).memory i.args ∧ X (w.forCall tape i).memory i.args) ∧ sizedMet enc C.prog fn (OpenSpec.ofChange s) apart (w.forCall tape i).memory i.args) ∧ a.holds C.prog (lone (Frame.enter C.prog f i.args .normal) [] (w.forCall tape i)))
    (contract : ∀ (W : World) (base : Nat) (args : Array Value) (ds gs : List (DataW H)) (before : List MemPlace),
      (∀ (j : Nat) t v, fn.params[j]? = some t → args[j]? = some v → Value.okWide C.prog W .any base t v) →
      DataW.Whole enc C.prog fn.params.toList s.vars apart W args.toList ds gs before →
      conds.all (PathCond.test C.prog ⟨fn.params.toList, ds, s.plain.varTypes C.prog, gs⟩) = true →
      (DataW.weightsEach C.prog (fn.params.toList ++ s.plain.varTypes C.prog) (ds ++ gs)).all (· ≤ reachBytes) = true → X W args → W.ShapedOpen C.prog →
      a.holds C.prog (lone (Frame.enter C.prog f args .normal) [] W) →
      Calls C.prog f args W fun e W' => ∃ v, e = .returned v ∧ s.post enc C.prog fn apart fresh handsOn again W args v W') :
    ReturnsInHanded a C os f .any (fun w args => (s.pre enc C.prog fn conds apart w args ∧ X w args) ∧ sizedMet enc C.prog fn (OpenSpec.ofChange s) apart w args) (s.post enc C.prog fn apart fresh handsOn again) := by
  refine returnsInHanded_of_calls own started noInit witness ?_
  intro w tape i _ hsh _ hok hpre hholds
  obtain ⟨_, _, _, fn', hfn', _, _, _, _, hval⟩ := hok
  have e : fn' = fn := Option.some.inj (hfn'.symm.trans hfn)
  subst e
  obtain ⟨⟨⟨ds, gs, before, hw, hc⟩, hx⟩, hz⟩ := hpre
  have hw' := DataW.Whole.of_heap (w' := w.forCall tape i) (by rfl) hw
  refine (contract (w.forCall tape i) w.heap.size i.args ds gs before hval hw' hc (hz.weights hw) (hX _ _ _ (by rfl) hx) hsh hholds).mono fun e W' ⟨v, he, hp⟩ => ?_
  subst he
  exact ChangeSpec.post_blind hp
end

/-- A table that is among what is laid. -/
theorem tabIs_of_mem {P : Program} {W : World} {name : String} {k : IntKind} {zs : List Int} {d : DataW Unit} {g : Nat} {t e : TypeId} {n : Nat}
    (hg : P.globalNamed name = some g) (hty : (P.globals[g]?).map (·.type) = some t) (ht : P.underlying t = some (.array n e)) (he : P.underlying e = some (.int k)) (hce : P.cellsOf e = 1) (hct : P.cellsOf t = n) (hd : d = Lib.tabData k zs) :
    ∀ {l : List (String × DataW Unit)} {ps : List MemPlace}, DataW.LaidVars P W l ps → (name, d) ∈ l → Lib.TabIs P W name k zs
  | [], _, _, h => by cases h
  | (m, d') :: r, ps, hl, h => by
    obtain ⟨g', t', cs, fuel, p, q, hg', ht', hvar, hdd, hr, _⟩ := hl
    rcases List.mem_cons.1 h with h | h
    · cases h
      subst hd
      obtain rfl := Option.some.inj (hg.symm.trans hg')
      obtain rfl := Option.some.inj (hty.symm.trans ht')
      unfold Lib.TabIs
      rw [hvar, ← Lib.cells_of_tab ht he hce hct hdd]
    · exact tabIs_of_mem hg hty ht he hce hct hd hr h
end Go.EV
namespace Go.EV
open Go Go.RowKit Go.Sort
set_option linter.unusedSimpArgs false
set_option linter.unusedVariables false
/-- Something asked of what is computed alone. -/
theorem RS.asm {ρ : Type} {Y : Fam ρ} {k : List It} {st : St} {p : Prop} [Decidable p] {A : Option ρ} (h : p → RS Y k st A) : RS Y k st (if p then A else Option.none) := fun r hr => by
  by_cases c : p
  · rw [if_pos c] at hr; exact h c r hr
  · rw [if_neg c] at hr; cases hr
/-! ### slices that a function of the library changes in place -/
/-- What such a function leaves: another row in the slice's block, and new memory. -/
def RowPut {α : Type} [Inhabited α] (enc : α → Value) (w : World) (b : Nat) (d : Array α) (w' : World) : Prop := ∃ n os, w' = grow (putRow enc (Sort.ahead w n) b 0 d) os
theorem RowPut.old {α : Type} [Inhabited α] {enc : α → Value} {w w' : World} {b : Nat} {d : Array α} (h : RowPut enc w b d w') (k : Nat) (hk : k < w.heap.size) (hne : k ≠ b) : w'.heap[k]? = w.heap[k]? := by
  obtain ⟨n, os, rfl⟩ := h
  show ((w.heap.modify b _) ++ os)[k]? = _
  rw [Array.getElem?_append_left (by simpa using hk), Array.getElem?_modify, if_neg (Ne.symm hne)]
theorem RowPut.new {α : Type} [Inhabited α] {enc : α → Value} {w w' : World} {b : Nat} {d : Array α} {cs : Array Value} {T : TypeId} (h : RowPut enc w b d w') (hb : w.heap[b]? = some (.cells cs T (0, 0))) :
    w'.heap[b]? = some (.cells (putCells enc 0 d cs) T (0, 0)) := by
  obtain ⟨n, os, rfl⟩ := h
  have hlt : b < w.heap.size := (Array.getElem?_eq_some_iff.1 hb).1
  show ((w.heap.modify b _) ++ os)[b]? = _
  rw [Array.getElem?_append_left (by simpa using hlt), Array.getElem?_modify, if_pos rfl, hb]
  rfl
theorem RowPut.size {α : Type} [Inhabited α] {enc : α → Value} {w w' : World} {b : Nat} {d : Array α} (h : RowPut enc w b d w') : w.heap.size ≤ w'.heap.size := by
  obtain ⟨n, os, rfl⟩ := h
  show w.heap.size ≤ ((w.heap.modify b _) ++ os).size
  simp
theorem Ct.rowG {α : Type} [Inhabited α] {E : Enc α} {enc : α → Value} (hw : E.w = 1) (hc : ∀ x, plain1 (E.c x 0) = some (enc x)) {P : Program} {B : Bs} {f : FuncId} {slot : Nat} {l m : List α} {v : AV} {u : Option Addr → Nat → Value} (hm : m.length = l.length)
    (hcall : ∀ (vs : Array Value) (w : World), (callFunc f vs).run P w = .ok (.enter f vs) w)
    (h : ∀ b cap w, Holds enc w b 0 l.toArray → b < w.heap.size → l.length ≤ cap → Calls P f #[.slice (some ⟨b, 0, none⟩) l.length cap] w fun e w' => e = .returned (u (some ⟨b, 0, none⟩) cap) ∧ RowPut enc w b m.toArray w')
    (h0 : l = [] → ∀ p w, Calls P f #[.slice p 0 0] w fun e w' => e = .returned (u p 0) ∧ w' = w)
    (hv : ∀ (g : G) (sz : Nat → Nat) (w : World) (b κ : Nat), g.β slot = some (b, κ) → sz slot = m.length → m.length ≤ κ → 0 < m.length → R g sz w v (u (some ⟨b, 0, none⟩) κ))
    (hv0 : l = [] → ∀ (g : G) (sz : Nat → Nat) (w : World) (p : Option Addr), sz slot = 0 → R g sz w v (u p 0)) :
    Ct P B f [.osl slot E.w 0 l.length l.length] (ofL [(slot, bufE E l)]) v (ofL [(slot, bufE E m)]) := by
  intro g w vs hs hr hO hB
  unfold Ent
  rw [hcall]
  have h1 := hr 0 (by simp)
  have hL : ∀ (x : Ob), ofL [(slot, x)] slot = some x := fun x => by simp [ofL]
  have hL2 : ∀ (x : Ob) i, i ≠ slot → ofL [(slot, x)] i = none := fun x i hi => by simp [ofL, beq_ne hi]
  have hsz : ∀ (k : List α), szf (ofL [(slot, bufE E k)]) slot = k.length := fun k => by simp [szf, hL, szOf, bufE]
  have hvs : vs = #[vs.getD 0 undef] := by
    apply Array.ext
    · simpa using hs
    · intro i hi hi2
      have : i = 0 := by simp at hi2; omega
      subst this
      simp [Array.getD, hi]
  have h1 : R g (szf (ofL [(slot, bufE E l)])) w (.osl slot E.w 0 l.length l.length) (vs.getD 0 undef) := h1
  rw [hvs]
  have hob := hO.ob slot _ (hL (bufE E l))
  have nil_case : l = [] → ∀ p, vs.getD 0 undef = .slice p 0 0 → Calls P f #[vs.getD 0 undef] w fun e w' => ∃ u, e = .returned u ∧ ∃ g', R g' (szf (ofL [(slot, bufE E m)])) w' v u ∧ OR g' (ofL [(slot, bufE E m)]) w' ∧ Fr g w g' w' ∧ Kp g (ofL [(slot, bufE E l)]) g' (ofL [(slot, bufE E m)]) := by
    intro hl p hvv
    have hmn : m = l := by
      rw [hl] at hm ⊢
      exact List.eq_nil_of_length_eq_zero hm
    rw [hvv, hmn]
    refine (h0 hl p w).mono fun e w' ⟨he, hw'⟩ => ?_
    subst hw'
    exact ⟨_, he, g, hv0 hl _ _ _ _ (by rw [hsz, hl]; rfl), hO, Fr.refl _ _, Kp.refl _ _⟩
  rcases osl_inv h1 (by rw [hsz, Nat.zero_add]) with ⟨a, _, h2, _, h3⟩ | ⟨b, κ, hβ, h3, _, hκ, hpos⟩
  · exact nil_case (List.eq_nil_of_length_eq_zero h2) a h3
  · rw [hsz] at hκ
    rcases hob with hn | ⟨b', κ', cs, T, hβ', hh, hnκ, hcs, hcell⟩
    · omega
    · rw [hβ] at hβ'
      cases hβ'
      have hb : b < w.heap.size := (Array.getElem?_eq_some_iff.1 hh).1
      have hcell2 : ∀ j (hj : j < l.length), cs.getD j undef = enc l[j] := fun j hj => by
        have := (hcell j 0 hj (by rw [hw]; decide)).1
        rw [hw, Nat.mul_one, Nat.add_zero] at this
        have e : rep E l j 0 = E.c l[j] 0 := by simp [rep, List.getD, hj]
        rw [e] at this
        exact F.plain (hc _) this
      have hH : Holds enc w b 0 l.toArray := fun j hj => by
        have hj' : j < l.length := by simpa using hj
        have hcsj : j < cs.size := by rw [hcs, hw]; omega
        have hd : l.toArray[j]! = l[j] := by simp [hj']
        constructor
        · rw [hd, ← hcell2 j hj', Nat.zero_add]
          exact cell_of hh (o := j) hcsj
        · unfold World.frozen?
          rw [hh]
          simp
      rw [h3, Nat.zero_mul, Nat.sub_zero]
      refine (h b κ w hH hb (by omega)).mono fun e w' ⟨he, hp⟩ => ?_
      refine ⟨_, he, g, hv _ _ _ b κ hβ (by rw [hsz]) (by omega) (by omega), ?_⟩
      have hnew := hp.new hh
      have hst : Stp g (ofL [(slot, bufE E l)]) w g (ofL [(slot, bufE E m)]) w' := by
        obtain ⟨n, os, hw'⟩ := hp
        refine Stp.one hO slot (by rw [hw']; rfl) (by rw [hw']; rfl) (by rw [hw']; rfl) (RowPut.size ⟨n, os, hw'⟩) (fun _ _ => rfl) (fun i hi => by rw [hL2 _ i hi, hL2 _ i hi]) rfl
          (fun k hk hne => RowPut.old ⟨n, os, hw'⟩ k hk (fun e => hne κ (e ▸ hβ))) (fun b2 κ2 h2 => ?_) (.inr ⟨by rw [hL]; rfl, .inl ⟨by rw [hsz, hsz, hm], rfl⟩⟩) fun hmo o ho => ?_
        · rw [hβ] at h2
          cases h2
          exact ⟨by rw [hL]; rfl, Nat.lt_of_lt_of_le hb (RowPut.size ⟨n, os, hw'⟩), .inr ⟨κ, hβ⟩⟩
        · rw [hL] at ho
          cases ho
          refine .inr ⟨b, κ, _, T, hβ, hnew, by rw [hm]; exact hnκ, by simp [putCells, hcs], fun i j hi hj => ?_⟩
          have hj0 : j = 0 := by rw [hw] at hj; omega
          subst hj0
          have hicl : i < cs.size := by rw [hcs, hw]; omega
          have e2 : (putCells enc 0 m.toArray cs).getD (i * E.w + 0) undef = enc m[i] := by
            rw [hw, Nat.mul_one, Nat.add_zero]
            unfold putCells
            simp [Array.getD, hicl, hi]
          have e3 : rep E m i 0 = E.c m[i] 0 := by simp [rep, List.getD, hi]
          rw [e2, e3]
          exact ⟨F_plain1 (hc _), plain1_one (hc _)⟩
      exact ⟨hst.o, hst.f, hst.k⟩
/-- A slice's row is changed; nothing is handed back. -/
theorem Ct.row {α : Type} [Inhabited α] {E : Enc α} {enc : α → Value} (hw : E.w = 1) (hc : ∀ x, plain1 (E.c x 0) = some (enc x)) {P : Program} {B : Bs} {f : FuncId} {slot : Nat} {l m : List α} (hm : m.length = l.length)
    (hcall : ∀ (vs : Array Value) (w : World), (callFunc f vs).run P w = .ok (.enter f vs) w)
    (h : ∀ b cap w, Holds enc w b 0 l.toArray → b < w.heap.size → l.length ≤ cap → Calls P f #[.slice (some ⟨b, 0, none⟩) l.length cap] w fun e w' => e = .returned (.tuple #[]) ∧ RowPut enc w b m.toArray w')
    (h0 : l = [] → ∀ p w, Calls P f #[.slice p 0 0] w fun e w' => e = .returned (.tuple #[]) ∧ w' = w) :
    Ct P B f [.osl slot E.w 0 l.length l.length] (ofL [(slot, bufE E l)]) (.tup []) (ofL [(slot, bufE E m)]) :=
  Ct.rowG hw hc (u := fun _ _ => .tuple #[]) hm hcall h h0 (fun _ _ _ _ _ _ _ _ _ => .tup _ _ rfl fun i hi => absurd hi (by simp)) (fun _ _ _ _ _ _ => .tup _ _ rfl fun i hi => absurd hi (by simp))
/-- .. and its beginning is handed back. -/
theorem Ct.rowCut {α : Type} [Inhabited α] {E : Enc α} {enc : α → Value} (hw : E.w = 1) (hc : ∀ x, plain1 (E.c x 0) = some (enc x)) {P : Program} {B : Bs} {f : FuncId} {slot : Nat} {l a t : List α} (hm : (a ++ t).length = l.length)
    (hcall : ∀ (vs : Array Value) (w : World), (callFunc f vs).run P w = .ok (.enter f vs) w)
    (h : ∀ b cap w, Holds enc w b 0 l.toArray → b < w.heap.size → l.length ≤ cap → Calls P f #[.slice (some ⟨b, 0, none⟩) l.length cap] w fun e w' => e = .returned (.slice (some ⟨b, 0, none⟩) a.length cap) ∧ RowPut enc w b (a ++ t).toArray w')
    (h0 : l = [] → ∀ p w, Calls P f #[.slice p 0 0] w fun e w' => e = .returned (.slice p 0 0) ∧ w' = w) :
    Ct P B f [.osl slot E.w 0 l.length l.length] (ofL [(slot, bufE E l)]) (.osl slot E.w 0 a.length (a ++ t).length) (ofL [(slot, bufE E (a ++ t))]) := by
  have hal : a.length ≤ (a ++ t).length := by simp
  refine Ct.rowG hw hc (u := fun p cap => .slice p a.length cap) hm hcall h (fun hl p w => ?_) (fun g sz w b κ hβ hs hk hp => ?_) (fun hl g sz w p hs => ?_)
  · have : a.length = 0 := by rw [hl] at hm; simp at hm; simp [hm.1]
    rw [this]
    exact h0 hl p w
  · have := R.osl slot E.w 0 a.length (a ++ t).length b κ (g := g) (sz := sz) (w := w) hβ (by rw [Nat.zero_add, hs]) hal (by rw [hs]; exact hk) hp
    rwa [Nat.zero_mul, Nat.sub_zero] at this
  · have h1 : a.length = 0 := by rw [hl] at hm; simp at hm; simp [hm.1]
    have h2 : (a ++ t).length = 0 := by rw [hm, hl]; rfl
    rw [h1, h2]
    exact .osl0 _ _ _ hs
end Go.EV
/-
strings.Builder: an object of two cells, and its bytes' row beside it (Ob.bx, Ob.bb).
-/
set_option linter.unusedSimpArgs false
set_option linter.unusedVariables false
namespace Go
/-! ### append behind what is owned: whose row is it then? -/
section
variable {P : Program} (w : World)
def NewOr (w : World) (v v' : Value) : Prop := v'.ownBlock = v.ownBlock ∨ ∃ k, v'.ownBlock = some k ∧ w.heap.size ≤ k
theorem app_bytes (t ty e : TypeId) (i : TypeInfo) (ht : P.underlying t = some (.slice e)) (hi : P.info? e = some i) (hz : i.zero = some (.int .u8 0)) (hsize : i.size = 1) (hby : i.bytes = 1)
    (v : Value) (n : Nat) (xs : List Value) (hown : w.ownsRowF 0 e 1 v n xs)
    (a : Addr) (m c : Nat) (news : List Value) (hl : news.length = m * 1) (hnews : ∀ j u, news[j]? = some u → w.cell? (a.add j) = some u) (h1 : ∀ u ∈ news, u.oneCell' = true)
    (h63 : n + m ≤ maxLen) (hbytes : (n + m) * 1 ≤ 140737488355328) :
    ∃ v' w', (Builtin.append_ #[t, t] ty #[v, .slice (some a) m c]).run P w = .ok v' w' ∧ w'.ownsRowF 0 e 1 v' (n + m) (xs ++ news) ∧ w.grownBy w' v.ownBlock ∧
      (v' = .slice none 0 0 ↔ v = .slice none 0 0 ∧ m = 0) ∧ NewOr w v v' := by
  obtain ⟨v', w', r1, r2, r3, r4⟩ := run_append_ownF (P := P) w 0 t ty e i (.int .u8 0) 1 1 ht hi hz hsize hby rfl (by decide) v n xs hown a m c news hl hnews h1 h63 hbytes (Nat.zero_le _)
  refine ⟨v', w', r1, r2, r3, r4, ?_⟩
  rcases hown.2 with ⟨rfl, rfl⟩ | ⟨g, cap, cur, fz, rfl, hbg, hg, hfz, hnc, hcm, hcs, htake⟩
  · obtain ⟨v2, w2, k1, k2, _⟩ := run_append_ownF (P := P) w w.heap.size t ty e i (.int .u8 0) 1 1 ht hi hz hsize hby rfl (by decide) (.slice none 0 0) 0 xs ⟨hown.1, .inl ⟨rfl, rfl⟩⟩ a m c news hl hnews h1 h63 hbytes (Nat.le_refl _)
    rw [k1] at r1
    cases r1
    rcases k2.2 with ⟨rfl, _⟩ | ⟨g, _, _, _, rfl, hb, _⟩
    · exact .inl rfl
    · exact .inr ⟨g, rfl, hb⟩
  · have hlen : xs.length = n * i.size := by rw [hsize]; exact hown.1
    by_cases hroom : n + m ≤ cap
    · have hr := run_append_roomF (P := P) w t ty e i ht hi g n cap cur fz hg (by rw [hsize]; exact hfz) a m c news (by rw [hsize]; exact hl) hnews h1 hroom (by rw [hsize, hl, hcs, ← Nat.add_mul]; exact Nat.mul_le_mul_right _ hroom)
      rw [hr] at r1
      cases r1
      exact .inl rfl
    · have hr := run_append_grow (P := P) w t ty e i (.int .u8 0) ht hi hz ⟨g, 0, none⟩ n cap xs hlen (hown.cells (g := g) rfl) a m c news (by rw [hsize]; exact hl) hnews (by omega) (by simp only [maxLen] at h63; omega) (growslice_fits (by omega) (by rw [hby]; exact hbytes))
      rw [hr] at r1
      cases r1
      exact .inr ⟨_, rfl, Nat.le_refl _⟩
theorem app_str (t u ty e : TypeId) (i : TypeInfo) (ht : P.underlying t = some (.slice e)) (hu : P.underlying u = some .string) (hi : P.info? e = some i) (hz : i.zero = some (.int .u8 0)) (hsize : i.size = 1) (hby : i.bytes = 1)
    (v : Value) (n : Nat) (xs : List Value) (hown : w.ownsRowF 0 e 1 v n xs) (s : ByteArray) (h63 : n + s.size ≤ maxLen) (hbytes : n + s.size ≤ 140737488355328) :
    ∃ v' w', (Builtin.append_ #[t, u] ty #[v, .string s]).run P w = .ok v' w' ∧ w'.ownsRowF 0 e 1 v' (n + s.size) (xs ++ Lib.strCells s) ∧ w.grownBy w' v.ownBlock ∧
      (v' = .slice none 0 0 ↔ v = .slice none 0 0 ∧ s.size = 0) ∧ NewOr w v v' := by
  obtain ⟨v', w', r1, r2, r3, r4⟩ := Lib.run_append_own_stringF (P := P) w 0 t u ty e i ht hu hi hz hsize hby v n xs hown s h63 hbytes (Nat.zero_le _)
  refine ⟨v', w', r1, r2, r3, r4, ?_⟩
  rcases hown.2 with ⟨rfl, rfl⟩ | ⟨g, cap, cur, fz, rfl, hbg, hg, hfz, hnc, hcm, hcs, htake⟩
  · obtain ⟨v2, w2, k1, k2, _⟩ := Lib.run_append_own_stringF (P := P) w w.heap.size t u ty e i ht hu hi hz hsize hby (.slice none 0 0) 0 xs ⟨hown.1, .inl ⟨rfl, rfl⟩⟩ s h63 hbytes (Nat.le_refl _)
    rw [k1] at r1
    cases r1
    rcases k2.2 with ⟨rfl, _⟩ | ⟨g, _, _, _, rfl, hb, _⟩
    · exact .inl rfl
    · exact .inr ⟨g, rfl, hb⟩
  · have hlen : xs.length = n * i.size := by rw [hsize]; exact hown.1
    by_cases hroom : n + s.size ≤ cap
    · have hr := Lib.run_append_room_stringF (P := P) w t u ty e i ht hu hi hsize g n cap cur fz hg (by simpa using hfz) s hroom (by omega)
      rw [hr] at r1
      cases r1
      exact .inl rfl
    · have hr := Lib.run_append_grow_string (P := P) w t u ty e i (.int .u8 0) ht hu hi hz ⟨g, 0, none⟩ n cap xs hlen (hown.cells (g := g) rfl) s (by omega) (by simp only [maxLen] at h63; omega) (by rw [hby]; exact growslice_fits (by omega) (by omega))
      rw [hr] at r1
      cases r1
      exact .inr ⟨_, rfl, Nat.le_refl _⟩
theorem wpList_app_bytes {ops : Array Oper} {rest : List Oper} {o : Oper} {a : Act} {Q : Exit → Act → World → Prop} (hgd : o.guard = none) (s x : Operand) (t : TypeId)
    (ho : o.op = .call { callee := .builtin .append, args := #[s, x], argTypes := #[t, t] }) (e : TypeId) (i : TypeInfo) (ht : P.underlying t = some (.slice e)) (hi : P.info? e = some i) (hz : i.zero = some (.int .u8 0))
    (hsize : i.size = 1) (hby : i.bytes = 1) (v : Value) (n : Nat) (xs : List Value) (hs : a.eval s = v) (hown : w.ownsRowF 0 e 1 v n xs)
    (ad : Addr) (m c : Nat) (news : List Value) (hx : a.eval x = .slice (some ad) m c) (hl : news.length = m * 1) (hnews : ∀ j u, news[j]? = some u → w.cell? (ad.add j) = some u) (h1 : ∀ u ∈ news, u.oneCell' = true)
    (h63 : n + m ≤ maxLen) (hbytes : (n + m) * 1 ≤ 140737488355328)
    (h : ∀ v' w', w'.ownsRowF 0 e 1 v' (n + m) (xs ++ news) → w.grownBy w' v.ownBlock → (v' = .slice none 0 0 ↔ v = .slice none 0 0 ∧ m = 0) → NewOr w v v' → wpList P ops Q rest (a.put o.dst v') w') : wpList P ops Q (o :: rest) a w := by
  refine wpList_plain hgd fun K hK => ?_
  obtain ⟨v', w', hr, h2, h3, h4, h5⟩ := app_bytes (P := P) w t o.type e i ht hi hz hsize hby v n xs hown ad m c news hl hnews h1 h63 hbytes
  unfold Oper.wp execOp
  simp only [ho, resolve, invoke, builtin, Sem.run_bind, Sem.run_pure, Result.andThen_ok, List.map_toArray, List.map_cons, List.map_nil, hs, hx, hr]
  exact hK _ _ (h v' w' h2 h3 h4 h5)
theorem wpList_app_str {ops : Array Oper} {rest : List Oper} {o : Oper} {a : Act} {Q : Exit → Act → World → Prop} (hgd : o.guard = none) (sl x : Operand) (t u : TypeId)
    (ho : o.op = .call { callee := .builtin .append, args := #[sl, x], argTypes := #[t, u] }) (e : TypeId) (i : TypeInfo) (ht : P.underlying t = some (.slice e)) (hu : P.underlying u = some .string) (hi : P.info? e = some i) (hz : i.zero = some (.int .u8 0))
    (hsize : i.size = 1) (hby : i.bytes = 1) (v : Value) (n : Nat) (xs : List Value) (hs : a.eval sl = v) (hown : w.ownsRowF 0 e 1 v n xs) (s : ByteArray) (hx : a.eval x = .string s)
    (h63 : n + s.size ≤ maxLen) (hbytes : n + s.size ≤ 140737488355328)
    (h : ∀ v' w', w'.ownsRowF 0 e 1 v' (n + s.size) (xs ++ Lib.strCells s) → w.grownBy w' v.ownBlock → (v' = .slice none 0 0 ↔ v = .slice none 0 0 ∧ s.size = 0) → NewOr w v v' → wpList P ops Q rest (a.put o.dst v') w') : wpList P ops Q (o :: rest) a w := by
  refine wpList_plain hgd fun K hK => ?_
  obtain ⟨v', w', hr, h2, h3, h4, h5⟩ := app_str (P := P) w t u o.type e i ht hu hi hz hsize hby v n xs hown s h63 hbytes
  unfold Oper.wp execOp
  simp only [ho, resolve, invoke, builtin, Sem.run_bind, Sem.run_pure, Result.andThen_ok, List.map_toArray, List.map_cons, List.map_nil, hs, hx, hr]
  exact hK _ _ (h v' w' h2 h3 h4 h5)
end
end Go

namespace Go.EV
open Go Go.RowKit Go.Shelf Go.Proofs
/-- What a builder's method leaves: the builder's block b, its bytes' row, all else. -/
def BdTo (T e : TypeId) (b : Nat) (v : Value) (xs : List Value) (w w' : World) : Prop :=
  ∃ p' v', w'.heap[b]? = some (.cells #[p', v'] T (0, 0)) ∧ (p' = .pointer none ∨ p' = .pointer (some ⟨b, 0, none⟩)) ∧ w'.ownsRowF 0 e 1 v' xs.length xs ∧ (xs = [] → v' = .slice none 0 0) ∧ NewOr w v v' ∧
    w'.os = w.os ∧ w'.tape = w.tape ∧ w'.output = w.output ∧ w.heap.size ≤ w'.heap.size ∧ ∀ k, k < w.heap.size → k ≠ b → some k ≠ v.ownBlock → w'.heap[k]? = w.heap[k]?
/-- What it is asked with. -/
structure BdFrom (T e : TypeId) (b : Nat) (v : Value) (xs : List Value) (w : World) : Prop where
  bk : ∃ p, (p = .pointer none ∨ p = .pointer (some ⟨b, 0, none⟩)) ∧ w.heap[b]? = some (.cells #[p, v] T (0, 0))
  own : w.ownsRowF 0 e 1 v xs.length xs
  ne : v.ownBlock ≠ some b
  nil : xs = [] → v = .slice none 0 0
variable {P : Program} {ρ : Ren}
theorem setCell_frame (w : World) (b j : Nat) (x : Value) : (w.setCell ⟨b, j, none⟩ x).os = w.os ∧ (w.setCell ⟨b, j, none⟩ x).tape = w.tape ∧ (w.setCell ⟨b, j, none⟩ x).output = w.output ∧ (w.setCell ⟨b, j, none⟩ x).heap.size = w.heap.size ∧ ∀ k, k ≠ b → (w.setCell ⟨b, j, none⟩ x).heap[k]? = w.heap[k]? :=
  ⟨rfl, rfl, rfl, by simp [World.setCell], fun k hk => Below.heap_setCell _ _ _ _ (fun e => hk e)⟩
/-- Behind copyCheck and append: the store of the new row. -/
theorem BdTo.put {T e b : Nat} {v v' : Value} {ys : List Value} {w w1 w2 : World} (hTe : T ≠ e) (hb : w.heap.size ≤ w1.heap.size)
    (h1 : w1.heap[b]? = some (.cells #[.pointer (some ⟨b, 0, none⟩), v] T (0, 0))) (f1 : w1.os = w.os ∧ w1.tape = w.tape ∧ w1.output = w.output ∧ ∀ k, k < w.heap.size → k ≠ b → w1.heap[k]? = w.heap[k]?)
    (hne : v.ownBlock ≠ some b) (hown : w2.ownsRowF 0 e 1 v' ys.length ys) (hg : w1.grownBy w2 v.ownBlock) (hnil : ys = [] → v' = .slice none 0 0) (hnew : NewOr w1 v v') :
    BdTo T e b v ys w (w2.setCell ⟨b, 1, none⟩ v') := by
  have hlt : b < w1.heap.size := (Array.getElem?_eq_some_iff.1 h1).1
  have h2 : w2.heap[b]? = some (.cells #[.pointer (some ⟨b, 0, none⟩), v] T (0, 0)) := (hg.block b hlt (fun e => hne e.symm)).trans h1
  obtain ⟨_, v3, h3, h4, _⟩ := Lib.BuilderAtF.put (Nat.zero_le _) h2 hown hTe
  have h5 : (w2.setCell ⟨b, 1, none⟩ v').heap[b]? = some (.cells #[.pointer (some ⟨b, 0, none⟩), v'] T (0, 0)) := by simp [World.setCell, Array.getElem?_modify, h2]
  rw [h5] at h3
  cases h3
  obtain ⟨g1, g2, g3, g4, g5⟩ := setCell_frame w2 b 1 v'
  refine ⟨_, _, h5, .inr rfl, h4, hnil, ?_, g1.trans (hg.os.trans f1.1), g2.trans (hg.tape.trans f1.2.1), g3.trans (hg.output.trans f1.2.2.1), by rw [g4]; exact Nat.le_trans hb hg.size, fun k hk hkb hkv => ?_⟩
  · rcases hnew with h | ⟨k, h, hk⟩
    · exact .inl h
    · exact .inr ⟨k, h, Nat.le_trans hb hk⟩
  · rw [g5 k hkb, hg.block k (Nat.lt_of_lt_of_le hk hb) hkv]
    exact f1.2.2.2 k hk hkb
theorem BdFrom.used {T e b : Nat} {v : Value} {xs : List Value} {w : World} (hbk : w.heap[b]? = some (.cells #[.pointer none, v] T (0, 0))) (hA : Lib.BuilderAtF T e 0 b (.pointer none) xs w) :
    (w.setCell ⟨b, 0, none⟩ (.pointer (some ⟨b, 0, none⟩))).heap[b]? = some (.cells #[.pointer (some ⟨b, 0, none⟩), v] T (0, 0)) ∧ (w.setCell ⟨b, 0, none⟩ (.pointer (some ⟨b, 0, none⟩))).ownsRowF 0 e 1 v xs.length xs ∧
      (w.setCell ⟨b, 0, none⟩ (.pointer (some ⟨b, 0, none⟩))).os = w.os ∧ (w.setCell ⟨b, 0, none⟩ (.pointer (some ⟨b, 0, none⟩))).tape = w.tape ∧ (w.setCell ⟨b, 0, none⟩ (.pointer (some ⟨b, 0, none⟩))).output = w.output ∧
      w.heap.size ≤ (w.setCell ⟨b, 0, none⟩ (.pointer (some ⟨b, 0, none⟩))).heap.size ∧ ∀ k, k ≠ b → (w.setCell ⟨b, 0, none⟩ (.pointer (some ⟨b, 0, none⟩))).heap[k]? = w.heap[k]? := by
  have hf := setCell_frame w b 0 (.pointer (some ⟨b, 0, none⟩))
  obtain ⟨_, v2, h2, h3, _⟩ := hA.used (.pointer (some ⟨b, 0, none⟩))
  have h4 : (w.setCell ⟨b, 0, none⟩ (.pointer (some ⟨b, 0, none⟩))).heap[b]? = some (.cells #[.pointer (some ⟨b, 0, none⟩), v] T (0, 0)) := by simp [World.setCell, Array.getElem?_modify, hbk]
  rw [h4] at h2
  cases h2
  exact ⟨h4, h3, hf.1, hf.2.1, hf.2.2.1, Nat.le_of_eq hf.2.2.2.1.symm, hf.2.2.2.2⟩
/-- What String() computes with: the row's address, the string, the world behind it. -/
theorem bd_string {T e tl tp ti ts : TypeId} (hp0 : P.underlying tp = some (.pointer e)) (hcb : P.cellsOf e = 1) {b : Nat} {v : Value} {t : ByteArray} {w : World} (h : BdFrom T e b v (Lib.strCells t) w) :
    ∃ a n cap q wf, w.drew.cell? ⟨b, 1, none⟩ = some (.slice a n cap) ∧ (Builtin.unsafeSliceData_ #[tl] tp #[.slice a n cap]).run P w.drew = .ok q w.drew ∧
      (Builtin.unsafeString_ #[tp, ti] ts #[q, .int .i64 n]).run P w.drew = .ok (.string t) wf ∧ BdTo T e b v (Lib.strCells t) w wf := by
  obtain ⟨p, hp, hbk⟩ := h.bk
  have hne := h.ne
  have hnil := h.nil
  have hown := h.own
  rcases h.own.2 with ⟨rfl, hz⟩ | ⟨g, cap, cur, fz, rfl, hbg, hg, hfz, hnc, hcm, hcs, htake⟩
  · have ht : t = ByteArray.empty := by
      rw [Lib.strCells_length] at hz
      exact ByteArray.ext (Array.eq_empty_of_size_eq_zero hz)
    subst ht
    have hUS := fun q => Lib.run_unsafeString_none (P := P) w.drew tp ti ts q
    have c1 : w.drew.cell? ⟨b, 1, none⟩ = some (.slice none 0 0) := by
      have : w.drew.heap[b]? = some (.cells #[p, .slice none 0 0] T (0, 0)) := hbk
      rw [Lib.cell_of_heap this]; rfl
    have hSD : (Builtin.unsafeSliceData_ #[tl] tp #[.slice none 0 0]).run P w.drew = .ok (.pointer none) w.drew := rfl
    have hfin : BdTo T e b (.slice none 0 0) (Lib.strCells ByteArray.empty) w w.drew := ⟨p, _, hbk, hp, hown, hnil, .inl rfl, rfl, rfl, rfl, Nat.le_refl _, fun _ _ _ _ => rfl⟩
    exact ⟨_, _, _, _, _, c1, hSD, hUS none, hfin⟩
  · have hl := Lib.strCells_length t
    simp only [hl] at hbk hown hne hnc htake hcs hfz hnil
    have hn0 : t.data.toList ≠ [] := fun h0 => by
      have h1 : Lib.strCells t = [] := by simp [Lib.strCells, h0]
      have := hnil h1
      cases this
    have ht0 : 0 < t.size := by
      rcases Nat.eq_zero_or_pos t.size with h0 | h0
      · exact absurd (by simpa using Array.eq_empty_of_size_eq_zero h0) hn0
      · exact h0
    have hts : t.size = t.data.toList.length := by simp
    have c1 : w.drew.cell? ⟨b, 1, none⟩ = some (.slice (some ⟨g, 0, none⟩) t.size cap) := by
      have : w.drew.heap[b]? = some (.cells #[p, .slice (some ⟨g, 0, none⟩) t.size cap] T (0, 0)) := hbk
      rw [Lib.cell_of_heap this]; rfl
    have hSD : (Builtin.unsafeSliceData_ #[tl] tp #[.slice (some ⟨g, 0, none⟩) t.size cap]).run P w.drew = .ok (.pointer (some ⟨g, 0, none⟩)) w.drew :=
      Lib.run_unsafeSliceData_row _ _ _ _ _ _ (by omega)
    have hUS : (Builtin.unsafeString_ #[tp, ti] ts #[.pointer (some ⟨g, 0, none⟩), .int .i64 t.size]).run P w.drew = .ok (.string t) (w.drew.freeze ⟨g, 0, none⟩ t.size) := by
      rw [hts]
      have := Lib.run_unsafeString_row w.drew tp ti ts e hp0 hcb g cur.size (by have hg' : w.drew.heap[g]? = some (.cells cur e fz) := hg; simp [World.shape?, hg']) t.data.toList hn0 (by omega) (by unfold maxLen at hcm; omega) (fun j x hx => hown.cells (g := g) rfl j (.int .u8 x.toNat) (by simp [Lib.strCells, hx]))
      simpa using this
    have hkeep := Lib.BuilderAtF.froze (w := w.drew) (T := T) (e := e) (B := 0) (b := b) (p := p) (g := g) (cap := cap) (bs := Lib.strCells t) ⟨Nat.zero_le _, _, hbk, by rw [hl]; exact hown, hne⟩ (by rw [hl]; exact c1)
    obtain ⟨_, v2, k1, k2, k3⟩ := hkeep
    rw [hl] at k1 k2
    have hgb : g ≠ b := fun e => hne (by rw [e]; rfl)
    have hfr : ∀ k, k ≠ g → (w.drew.freeze ⟨g, 0, none⟩ t.size).heap[k]? = w.heap[k]? := fun k hk => by
      unfold World.freeze
      split
      · rfl
      · simp only [Array.getElem?_modify]
        rw [if_neg (fun e => hk e.symm)]
        rfl
    have hfs : (w.drew.freeze ⟨g, 0, none⟩ t.size).heap.size = w.heap.size ∧ (w.drew.freeze ⟨g, 0, none⟩ t.size).os = w.os ∧ (w.drew.freeze ⟨g, 0, none⟩ t.size).tape = w.tape ∧ (w.drew.freeze ⟨g, 0, none⟩ t.size).output = w.output := by
      unfold World.freeze
      split
      · exact ⟨rfl, rfl, rfl, rfl⟩
      · exact ⟨by simp only [Array.size_modify]; rfl, rfl, rfl, rfl⟩
    have k4 := (hfr b (Ne.symm hgb)).trans hbk
    rw [k4] at k1
    cases k1
    have hfin : BdTo T e b (.slice (some ⟨g, 0, none⟩) t.size cap) (Lib.strCells t) w (w.drew.freeze ⟨g, 0, none⟩ t.size) :=
      ⟨p, _, k4, hp, by rw [hl]; exact k2, hnil, .inl rfl, hfs.2.1, hfs.2.2.1, hfs.2.2.2, by rw [hfs.1]; exact Nat.le_refl _, fun k _ _ hk => hfr k (fun e => hk (by rw [e]; rfl))⟩
    exact ⟨_, _, _, _, _, c1, hSD, hUS, hfin⟩
theorem Ct.bd {P : Program} {B : Bs} {f : FuncId} {T e s h m : Nat} {t t' : ByteArray} {args : List AV} {us : List Value} {u : Value} {v : AV} (hsh : s ≠ h)
    (hc : ∀ (vs : Array Value) (w : World), (callFunc f vs).run P w = .ok (.enter f vs) w) (ha : plainL args = some us) (hv : ∀ (g : G) (sz : Nat → Nat) (w : World), R g sz w v u)
    (hk : ∀ b x w, BdFrom T e b x (Lib.strCells t) w → Calls P f ((.pointer (some ⟨b, 0, none⟩)) :: us).toArray w fun en w' => en = .returned u ∧ BdTo T e b x (Lib.strCells t') w w') :
    Ct P B f (.ref s 0 0 0 2 :: args) (ofL [(s, .bx T h m t.size), (h, .bb e m t)]) v (ofL [(s, .bx T h (m + 1) t'.size), (h, .bb e (m + 1) t')]) := by
  intro g w vs hs hr hO hB
  unfold Ent
  rw [hc]
  have ls : ∀ (x y : Ob), ofL [(s, x), (h, y)] s = some x := fun x y => by simp [ofL]
  have lh : ∀ (x y : Ob), ofL [(s, x), (h, y)] h = some y := fun x y => by simp [ofL, beq_ne (Ne.symm hsh)]
  have lo : ∀ (x y : Ob) i, i ≠ s → i ≠ h → ofL [(s, x), (h, y)] i = none := fun x y i h1 h2 => by simp [ofL, beq_ne h1, beq_ne h2]
  have zs : ∀ (a b c d e' : Nat) (q : ByteArray), szf (ofL [(s, .bx a b c d), (h, .bb e' c q)]) s = 2 := fun a b c d e' q => by simp [szf, ls, szOf]
  have zh : ∀ (a b c d e' : Nat) (q : ByteArray), szf (ofL [(s, .bx a b c d), (h, .bb e' c q)]) h = c := fun a b c d e' q => by simp [szf, lh, szOf]
  have lt := Lib.strCells_length t
  have lt' := Lib.strCells_length t'
  have nil0 : ∀ q : ByteArray, Lib.strCells q = [] ↔ q.size = 0 := fun q => by rw [← Lib.strCells_length q, List.length_eq_zero_iff]
  obtain ⟨b, κ, p, x, hβ, hh, hp, hx⟩ := hO.ob s _ (ls _ _)
  obtain ⟨b', κ', hβ', h0⟩ := ref_inv (hr 0 (by simp)) (by rw [zs])
  rw [hβ] at hβ'
  cases hβ'
  have hvs : vs = ((.pointer (some ⟨b, 0, none⟩)) :: us).toArray := by
    obtain ⟨hl1, hl2⟩ := plainL_get ha
    apply Array.ext
    · simp only [List.size_toArray, List.length_cons]
      rw [hs, hl1]
      rfl
    · intro i hi hi2
      cases i with
      | zero => simpa [Array.getD, hi] using h0
      | succ i =>
        have hi3 : i < args.length := by rw [hs] at hi; simpa using hi
        have h1 := hr (i + 1) (by simpa using hi3)
        have h2 : (AV.ref s 0 0 0 2 :: args).getD (i + 1) .bad = args.getD i .bad := by simp [List.getD]
        rw [h2] at h1
        have h3 := h1.plain1 (hl2 i hi3)
        simpa [Array.getD, hi, List.getD, hl1 ▸ hi3] using h3
  -- what the builder holds
  have hbs : b < w.heap.size := (hO.own s b κ hβ).2.1
  have hF : BdFrom T e b x (Lib.strCells t) w ∧ (∀ k, x.ownBlock = some k → ∃ κ, g.β h = some (k, κ)) := by
    rcases hx.2 with h1 | ⟨_, ⟨h1, rfl⟩ | ⟨h1, bb, κb, hβb, rfl⟩⟩
    · rw [zh] at h1
      omega
    · refine ⟨⟨⟨p, hp, hh⟩, ?_, by simp [Value.ownBlock], fun _ => rfl⟩, fun k hk => by cases hk⟩
      have := (nil0 t).2 h1
      rw [this]
      exact w.ownsRowF_nil 0 e 1
    · rcases hO.ob h _ (lh _ _) with h2 | ⟨b2, κ2, cur, fz, hβ2, hh2, hfz, hle, hmx, hcs, htk⟩
      · omega
      · rw [hβb] at hβ2
        cases hβ2
        have hne : bb ≠ b := fun e1 => hsh (hO.inj s h b κ κb hβ (e1 ▸ hβb))
        refine ⟨⟨⟨p, hp, hh⟩, ⟨by omega, .inr ⟨bb, κb, cur, fz, by rw [lt], Nat.zero_le _, hh2, by omega, by omega, hmx, by omega, by rw [lt, Nat.mul_one]; exact htk⟩⟩, by simpa [Value.ownBlock] using hne, fun h3 => ?_⟩, fun k hk => ⟨κb, by simp [Value.ownBlock] at hk; rw [← hk]; exact hβb⟩⟩
        have := (nil0 t).1 h3
        omega
  obtain ⟨hF, hxo⟩ := hF
  rw [hvs]
  refine (hk b x w hF).mono fun en w' ⟨he, p', v', hb', hp', hown, hnil, hnew, os, tape, out, size, fr⟩ => ⟨u, he, ?_⟩
  have hfr : ∀ k, k < w.heap.size → ¬ g.own k → w'.heap[k]? = w.heap[k]? := fun k hk hno => fr k hk (fun e1 => hno ⟨s, κ, e1 ▸ hβ⟩) (fun e1 => by
    obtain ⟨κ2, h2⟩ := hxo k e1.symm
    exact hno ⟨h, κ2, h2⟩)
  have only : ∀ i bk κk, g.β i = some (bk, κk) → i = s ∨ i = h := fun i bk κk hi => by
    rcases Nat.decEq i s with h1 | h1
    · rcases Nat.decEq i h with h2 | h2
      · have := (hO.own i bk κk hi).1
        rw [lo _ _ i h1 h2] at this
        cases this
      · exact .inr h2
    · exact .inl h1
  rw [lt'] at hown
  rcases hown.2 with ⟨hv0, hz⟩ | ⟨bb, κb, cur, fz, hv0, _, hg, hfz, hnc, hcm, hcs, htk⟩
  · refine ⟨g, hv _ _ _, ⟨fun i o ho => ?_, fun i bk κk hi => ?_, hO.inj, fun bk hbk => Nat.lt_of_lt_of_le (hO.fz bk hbk) size⟩, ⟨os, tape, out, size, fun k hk hno => hfr k hk hno, fun _ h => h, fun _ h => .inl h, fun _ h => .inl h⟩, fun i hi => ?_⟩
    · rcases Nat.decEq i s with h1 | h1
      · rcases Nat.decEq i h with h2 | h2
        · rw [lo _ _ i h1 h2] at ho; cases ho
        · subst h2
          rw [lh] at ho; cases ho
          exact .inl hz
      · subst h1
        rw [ls] at ho; cases ho
        exact ⟨b, κ, p', v', hβ, hb', hp', by rw [hv0]; rfl, .inr ⟨by rw [zh], .inl ⟨hz, hv0⟩⟩⟩
    · obtain ⟨h1, h2, h3⟩ := hO.own i bk κk hi
      refine ⟨?_, Nat.lt_of_lt_of_le h2 size, h3⟩
      rcases only i bk κk hi with rfl | rfl
      · rw [ls]; rfl
      · rw [lh]; rfl
    · rcases Nat.decEq i s with h1 | h1
      · rcases Nat.decEq i h with h2 | h2
        · rw [lo _ _ i h1 h2] at hi; cases hi
        · subst h2
          exact ⟨by rw [lh]; rfl, .inr (by rw [zh, zh]; exact Nat.lt_succ_self m)⟩
      · subst h1
        exact ⟨by rw [ls]; rfl, .inl ⟨by rw [zs, zs], rfl⟩⟩
  · have hbbw : bb < w'.heap.size := (Array.getElem?_eq_some_iff.1 hg).1
    have hwho : (∃ κ2, g.β h = some (bb, κ2)) ∨ w.heap.size ≤ bb := by
      rcases hnew with h1 | ⟨k, h1, h2⟩
      · rw [hv0] at h1
        exact .inl (hxo bb h1.symm)
      · rw [hv0] at h1
        simp only [Value.ownBlock, Option.some.injEq] at h1
        exact .inr (h1 ▸ h2)
    have hbbb : bb ≠ b := fun e1 => by
      rcases hwho with ⟨κ2, h1⟩ | h1
      · exact hsh (hO.inj s h b κ κ2 hβ (e1 ▸ h1))
      · omega
    have hS : ¬ g.S bb := fun h1 => by
      rcases hwho with ⟨κ2, h2⟩ | h2
      · exact (hO.own h bb κ2 h2).2.2 h1
      · exact absurd (hO.fz bb h1) (by omega)
    refine ⟨⟨g.S, upd1 g.β h (some (bb, κb))⟩, hv _ _ _, ⟨fun i o ho => ?_, fun i bk κk hi => ?_, fun i j bk κ1 κ2 hi hj => ?_, fun bk hbk => Nat.lt_of_lt_of_le (hO.fz bk hbk) size⟩, ⟨os, tape, out, size, fun k hk hno => hfr k hk hno, fun _ h => h, fun _ h => .inl h, ?_⟩, fun i hi => ?_⟩
    · rcases Nat.decEq i s with h1 | h1
      · rcases Nat.decEq i h with h2 | h2
        · rw [lo _ _ i h1 h2] at ho; cases ho
        · subst h2
          rw [lh] at ho; cases ho
          exact .inr ⟨bb, κb, cur, fz, upd1_self _ _ _, hg, by omega, hnc, hcm, by omega, by rw [Nat.mul_one] at htk; exact htk⟩
      · subst h1
        rw [ls] at ho; cases ho
        refine ⟨b, κ, p', v', (upd1_ne _ _ hsh).trans hβ, hb', hp', by rw [hv0]; rfl, .inr ⟨by rw [zh], ?_⟩⟩
        rcases Nat.eq_zero_or_pos t'.size with h1 | h1
        · exact .inl ⟨h1, hnil ((nil0 t').2 h1)⟩
        · exact .inr ⟨h1, bb, κb, upd1_self _ _ _, hv0⟩
    · have hi : upd1 g.β h (some (bb, κb)) i = some (bk, κk) := hi
      rcases Nat.decEq i h with h2 | h2
      · rw [upd1_ne _ _ h2] at hi
        obtain ⟨h1, h3, h4⟩ := hO.own i bk κk hi
        refine ⟨?_, Nat.lt_of_lt_of_le h3 size, h4⟩
        rcases only i bk κk hi with rfl | rfl
        · rw [ls]; rfl
        · exact absurd rfl h2
      · subst h2
        rw [upd1_self] at hi
        cases hi
        exact ⟨by rw [lh]; rfl, hbbw, hS⟩
    · have hoth : ∀ i κ1, i ≠ h → g.β i = some (bb, κ1) → False := fun i κ1 hi h1 => by
        rcases only i bb κ1 h1 with rfl | rfl
        · rw [hβ] at h1; cases h1; exact hbbb rfl
        · exact hi rfl
      have hi : upd1 g.β h (some (bb, κb)) i = some (bk, κ1) := hi
      have hj : upd1 g.β h (some (bb, κb)) j = some (bk, κ2) := hj
      rcases Nat.decEq i h with h2 | h2
      · rcases Nat.decEq j h with h3 | h3
        · rw [upd1_ne _ _ h2] at hi
          rw [upd1_ne _ _ h3] at hj
          exact hO.inj i j bk κ1 κ2 hi hj
        · subst h3
          rw [upd1_self] at hj
          cases hj
          rw [upd1_ne _ _ h2] at hi
          exact (hoth i κ1 h2 hi).elim
      · subst h2
        rcases Nat.decEq j i with h3 | h3
        · rw [upd1_self] at hi
          cases hi
          rw [upd1_ne _ _ h3] at hj
          exact (hoth j κ2 h3 hj).elim
        · exact h3.symm
    · rintro bk ⟨i, κk, hi⟩
      rcases Nat.decEq i h with h2 | h2
      · have hi : upd1 g.β h (some (bb, κb)) i = some (bk, κk) := hi
        rw [upd1_ne _ _ h2] at hi
        exact .inl ⟨i, κk, hi⟩
      · subst h2
        have hi : upd1 g.β i (some (bb, κb)) i = some (bk, κk) := hi
        rw [upd1_self] at hi
        cases hi
        rcases hwho with ⟨κ2, h1⟩ | h1
        · exact .inl ⟨i, κ2, h1⟩
        · exact .inr h1
    · rcases Nat.decEq i s with h1 | h1
      · rcases Nat.decEq i h with h2 | h2
        · rw [lo _ _ i h1 h2] at hi; cases hi
        · subst h2
          exact ⟨by rw [lh]; rfl, .inr (by rw [zh, zh]; exact Nat.lt_succ_self m)⟩
      · subst h1
        exact ⟨by rw [ls]; rfl, .inl ⟨by rw [zs, zs], (upd1_ne _ _ hsh)⟩⟩
theorem Stp.bdnew {g : G} {L : Obs} {w : World} (hO : OR g L w) {h : Nat} (hh : L h = none) (e : Nat) : Stp g L w g (upd1 L h (some (.bb e 0 ByteArray.empty))) w := by
  have hn := hO.none_of hh
  refine Stp.one hO h rfl rfl rfl (Nat.le_refl _) (fun _ _ => rfl) (fun i hi => upd1_ne _ _ hi) rfl (fun _ _ _ => rfl) (fun b κ h => by rw [hn] at h; cases h) (.inl hh) ?_
  intro hm o ho
  have : o = .bb e 0 ByteArray.empty := by simpa [upd1_self] using ho.symm
  subst this
  exact .inl rfl
/-- A new builder's bytes: none as yet. -/
theorem RS.bdnew {ρ : Type} {Y : Fam ρ} {k : List It} {st : St} {sh : Option ρ} (h e : Nat) (hh : st.L h = Option.none) (hk : RS Y k ⟨st.t, upd1 st.L h (some (.bb e 0 ByteArray.empty))⟩ sh) : RS Y k st sh := fun r hr z g a w hs hf => by
  have hst := Stp.bdnew hs.o hh e
  exact hk r hr z g a w ⟨hs.nt, hs.df, fun i => (hs.tm i).mono hst.m, hst.o⟩ (hf.step hst)
theorem LeO.bbN {T m : Nat} {t : ByteArray} : LeO (.bb T m t) (.bb T m ByteArray.empty) := ⟨rfl, fun _ _ _ _ _ => .inl rfl⟩
theorem strCells_push (b : ByteArray) {c : Int} (h0 : 0 ≤ c) (h1 : c < 256) : Lib.strCells (b.push (UInt8.ofNat c.toNat)) = Lib.strCells b ++ [.int .u8 c] := by
  have h2 : (UInt8.ofNat c.toNat).toNat = c.toNat := by rw [UInt8.toNat_ofNat']; omega
  have h3 : ((UInt8.ofNat c.toNat).toNat : Int) = c := by rw [h2]; omega
  unfold Lib.strCells
  show List.map _ (b.data.push (UInt8.ofNat c.toNat)).toList = _
  rw [Array.toList_push, List.map_append]
  simp only [List.map_cons, List.map_nil, h3]
theorem strCells_app (b s : ByteArray) : Lib.strCells (b ++ s) = Lib.strCells b ++ Lib.strCells s := by
  unfold Lib.strCells
  rw [ByteArray.data_append, Array.toList_append, List.map_append]
end Go.EV
/-
A call that reads an owned slice and gives it back; appends whose room to spare is told.
-/
set_option linter.unusedSimpArgs false
set_option linter.unusedVariables false
namespace Go.EV
open Go Go.RowKit
/-- Arguments of a function that is handed an owned slice to read alone. -/
def ROA (s n w0 : Nat) (f0 : Nat → Nat → AV) : List AV → List AV → Prop
  | [], [] => True
  | a :: az, c :: cs => ((Le a c ∧ cl (fun _ => false) c = true) ∨ (∃ len, a = .osl s w0 0 len n ∧ len ≤ n ∧ Le (.sl len w0 f0) c)) ∧ ROA s n w0 f0 az cs
  | _, _ => False
theorem ROA.len {s n w0 : Nat} {f0 : Nat → Nat → AV} : ∀ {az cs : List AV}, ROA s n w0 f0 az cs → az.length = cs.length
  | [], [], _ => rfl
  | _ :: az, _ :: cs, h => by rw [List.length_cons, List.length_cons, ROA.len h.2]
  | [], _ :: _, h => h.elim
  | _ :: _, [], h => h.elim
theorem ROA.get {s n w0 : Nat} {f0 : Nat → Nat → AV} : ∀ {az cs : List AV}, ROA s n w0 f0 az cs → ∀ i, i < az.length →
    ((Le (az.getD i .bad) (cs.getD i .bad) ∧ cl (fun _ => false) (cs.getD i .bad) = true) ∨ (∃ len, az.getD i .bad = .osl s w0 0 len n ∧ len ≤ n ∧ Le (.sl len w0 f0) (cs.getD i .bad)))
  | [], [], _, i, hi => by cases hi
  | a :: az, c :: cs, h, 0, _ => by simpa [List.getD] using h.1
  | a :: az, c :: cs, h, i + 1, hi => by
    have := ROA.get h.2 i (by simpa using hi)
    simpa [List.getD] using this
  | [], _ :: _, h, _, _ => h.elim
  | _ :: _, [], h, _, _ => h.elim
theorem R_plain_inv {g : G} {sz : Nat → Nat} {w : World} {v : AV} {x u : Value} (hv : plainV v = some x) (h : R g sz w v u) : u = x := by
  unfold plainV at hv
  split at hv
  · rename_i xs
    obtain ⟨us, h1, rfl⟩ := Option.map_eq_some_iff.1 hv
    obtain ⟨cs, rfl, h3, h4⟩ := h.tup_inv
    obtain ⟨p1, p2⟩ := plainL_get h1
    have : cs = us.toArray := by
      apply Array.ext
      · simp [h3, p1]
      · intro i hi hi2
        have hi3 : i < xs.length := by omega
        have := (h4 i hi3).plain1 (p2 i hi3)
        have hi4 : i < us.length := by omega
        simpa [Array.getD, hi, List.getD, hi4] using this
    rw [this]
  · exact h.plain1 hv
theorem ro_core {c : Cx} {f : FuncId} {args cargs : List AV} {st : St} {d : Option Nat} {v : AV} {s n w0 : Nat} {f0 : Nat → Nat → AV}
    (hct : Ct c.P c.bs f cargs (ofL []) v (ofL [])) (hL : st.L s = some (.buf n w0 f0)) (hargs : ROA s n w0 f0 args cargs) (hd : okDst c.cf.N d = true) {x : Value} (hv : plainV v = some x)
    {g : G} {a : Act} {w : World} (hs : SR g c.cf.N st a w) (hf : In c g st.L w) {vs : Array Value} (hvl : vs.size = args.length) (hvr : ∀ i, i < args.length → R g (szf st.L) w (args.getD i .bad) (vs.getD i undef)) :
    Ent c.P f vs w fun u w1 => ∃ g2, SR g2 c.cf.N ⟨putO st.t d v, st.L⟩ (a.put d u) w1 ∧ In c g2 st.L w1 := by
  have hO := hs.o
  have hsz : szf st.L s = n := by simp [szf, hL, szOf]
  let bk : Nat → Prop := fun b => ∃ κ, g.β s = some (b, κ)
  let gc : G := ⟨fun b => g.S b ∨ bk b, fun _ => none⟩
  have hFc : Fr g w gc w := ⟨rfl, rfl, rfl, Nat.le_refl _, fun _ _ _ => rfl, fun _ h => .inl h, fun b h => h.elim .inl (fun ⟨κ, h⟩ => .inr (.inl ⟨s, κ, h⟩)), fun b ⟨i, κ, h⟩ => (by cases h)⟩
  have hOc : OR gc (ofL []) w := ⟨fun i o h => (by cases h), fun i b κ h => (by cases h), fun i j b κ κ' h _ => (by cases h), fun b h => h.elim (hO.fz b) (fun ⟨κ, h⟩ => (hO.own s b κ h).2.1)⟩
  have hE := hct gc w vs (by rw [hvl, hargs.len]) (fun i hi => by
    have hi' : i < args.length := by rw [hargs.len]; exact hi
    have h1 := hvr i hi'
    rcases hargs.get i hi' with ⟨h2, h3⟩ | ⟨len, h2, h3, h4⟩
    · exact R.restrict (g := g) (g' := gc) (sz' := szf (ofL [])) (D := fun _ => false) (fun _ h => .inl h) (fun _ h => by cases h) (h2 _ _ _ _ h1) h3
    · rw [h2] at h1
      refine h4 _ _ _ _ (.fz _ _ ?_)
      rcases osl_inv h1 (by rw [hsz, Nat.zero_add]) with ⟨a0, _, e1, _, h5⟩ | ⟨b, κ, hβ, h5, h6, hκ, hpos⟩
      · rw [h5, e1]
        exact F.sl0 _ _ _ _
      · rw [hsz] at hκ
        rcases hO.ob s _ hL with h7 | ⟨b', κ', cs, T, hβ', hh, hnκ, hcs, hcell⟩
        · have : len = 0 := by omega
          subst this
          rw [h5]
          exact F.sl0 _ _ _ _
        · rw [hβ] at hβ'
          cases hβ'
          rw [h5, Nat.zero_mul, Nat.sub_zero]
          refine F.sl _ _ _ b 0 κ (fun i j => cs.getD (i * w0 + j) undef) (.inr ⟨κ, hβ⟩) (by omega) (fun i j hi hj => ?_) (fun i j hi hj => ((hcell i j (by omega) hj).1).mono (fun _ h => .inl h) (fun _ _ _ => rfl)) (fun i j hi hj => (hcell i j (by omega) hj).2)
          rw [Nat.zero_add]
          have hlt : i * w0 + j < cs.size := by
            have : (i + 1) * w0 ≤ κ * w0 := Nat.mul_le_mul_right _ (by omega)
            rw [Nat.add_mul] at this; omega
          rw [cell_of hh hlt]) hOc (c.bs.mono hFc (c.bs.mono hf.f c.b0))
  refine hE.mono fun u w1 hK => ?_
  obtain ⟨g1, hR1, hO1, hF1, hK1⟩ := hK
  have hnone : ∀ b, ¬ gc.own b := fun b ⟨i, κ, h⟩ => (by cases h)
  let g2 : G := ⟨fun b => g1.S b ∧ ¬ bk b, g.β⟩
  have hnb : ∀ b, g.S b → ¬ bk b := fun b hb ⟨κ, h⟩ => (hO.own s b κ h).2.2 hb
  have hheap : ∀ b, b < w.heap.size → w1.heap[b]? = w.heap[b]? := fun b hb => hF1.heap b hb (hnone b)
  have hmo : Mo g (szf st.L) w g2 (szf st.L) w1 := ⟨fun b h => ⟨hF1.S b (.inl h), hnb b h⟩, fun b o hb => cell_eq (hheap b (hO.fz b hb)) o, fun _ => .inr (.inl ⟨rfl, rfl⟩)⟩
  have hO2 : OR g2 st.L w1 := by
    refine ⟨fun i o ho => (hO.ob i o ho).mono hmo rfl (fun b κ hb => hheap b (hO.own i b κ hb).2.1), fun i b κ h => ?_, hO.inj, fun b hb => hO1.fz b hb.1⟩
    obtain ⟨h1, h2, h3⟩ := hO.own i b κ h
    refine ⟨h1, Nat.lt_of_lt_of_le h2 hF1.size, fun h4 => ?_⟩
    rcases hF1.S' b h4.1 with h5 | h5 | h5
    · rcases h5 with h5 | h5
      · exact h3 h5
      · exact h4.2 h5
    · exact hnone b h5
    · omega
  have hF2 : Fr g w g2 w1 := by
    refine ⟨hF1.os, hF1.tape, hF1.out, hF1.size, fun b hb _ => hheap b hb, hmo.S, fun b hb => ?_, fun b h => .inl h⟩
    rcases hF1.S' b hb.1 with h5 | h5 | h5
    · rcases h5 with h5 | h5
      · exact .inl h5
      · exact absurd h5 hb.2
    · exact absurd h5 (hnone b)
    · exact .inr (.inr h5)
  have hu := R_plain_inv hv hR1
  have hR2 : R g2 (szf st.L) w1 v u := by rw [hu]; exact R_plainV hv
  refine ⟨g2, ?_, ⟨hf.f.trans hF2, hf.k.trans fun i hi => ⟨hi, .inl ⟨rfl, rfl⟩⟩⟩⟩
  cases d with
  | none => exact ⟨hs.nt, hs.df, fun i => (hs.tm i).mono hmo, hO2⟩
  | some d =>
    have hdN : d < c.cf.N := okDst_lt hd d rfl
    refine ⟨by simp [Act.put]; exact hs.nt, hs.df, fun i => ?_, hO2⟩
    have hsz : a.tmps.size = c.cf.N := hs.nt
    rw [put_getD a d u (by rw [hsz]; exact hdN)]
    by_cases e' : i = d
    · subst e'; rw [if_pos rfl]; show R _ _ _ (upd1 _ _ _ _) _; rw [upd1_self]; exact hR2
    · rw [if_neg e']; show R _ _ _ (upd1 _ _ _ _) _; rw [upd1_ne _ _ e']; exact (hs.tm i).mono hmo
theorem RT.callRO {ρ : Type} {Y : Fam ρ} {t0 : Tree} {f : FuncId} {args : List AV} {st : St} {d : Option Nat} {k : List It} {ρ' : Type} {sh : Option ρ'} {cont : ρ' → Option ρ} {cargs : List AV} {v : ρ' → AV} (s : Nat) {n w0 : Nat} {f0 : Nat → Nat → AV}
    (h : t0 = .call f args st d k) (hct : ∀ r, sh = some r → Ct Y.P Y.bs f cargs (ofL []) (v r) (ofL [])) (hL : st.L s = some (.buf n w0 f0)) (hargs : ROA s n w0 f0 args cargs)
    (hd : okDst Y.cf.N d = true) (hv : ∀ r, ∃ x, plainV (v r) = some x) (h1 : ∀ r, RS Y k ⟨putO st.t d (v r), st.L⟩ (cont r)) : RT Y t0 (sh.bind cont) := fun r hr => by
  obtain ⟨r', e1, e2⟩ := Option.bind_eq_some_iff.1 hr
  obtain ⟨x, hx⟩ := hv r'
  subst h
  intro z g a w hs hf vs hvl hvr
  refine (ro_core (c := (Y.sp r).cx z) (hct r' e1) hL hargs hd hx hs hf hvl hvr).mono fun u w1 hK => ?_
  obtain ⟨g2, h2, h3⟩ := hK
  exact h1 r' r e2 z g2 _ w1 h2 h3
section
variable {α : Type} {E : Enc α} {ρ : Type} {Y : Fam ρ}
/-- An append to an owned slice with room to spare: what room there is then. -/
theorem RT.appD {t0 : Tree} {k : List It} {A : Option ρ} {d s : Nat} {st : St} {l t m : List α} {f2 : Nat → Nat → AV}
    (h : t0 = .br (decide (l.length + m.length ≤ (l ++ t).length))
      (.goto k (st.step (some d) (.osl s E.w 0 (l.length + m.length) (l ++ t).length) (.upd s (.buf (l ++ t).length E.w fun i j => bif Nat.ble l.length i && Nat.blt i (l.length + m.length) then f2 (i - l.length) j else rep E (l ++ t) i j))))
      (.br (decide (l.length + m.length ≤ 549755813888))
        (.goto k (st.step (some d) (.osl s E.w 0 (l.length + m.length) (l.length + m.length)) (.upd s (.buf (l.length + m.length) E.w fun i j => bif Nat.blt i l.length then rep E (l ++ t) i j else f2 (i - l.length) j)))) .fail))
    (hf : ∀ i j, i < m.length → j < E.w → f2 i j = rep E m i j)
    (h3 : RS Y k ⟨upd1 st.t d (.osl s E.w 0 (l ++ m).length ((l ++ m) ++ t.drop m.length).length), upd1 st.L s (some (bufE E ((l ++ m) ++ t.drop m.length)))⟩ A) :
    RT Y t0 (if l.length + m.length ≤ 549755813888 then A else Option.none) := by
  intro r hr
  have hA : A = some r := by
    by_cases c : l.length + m.length ≤ 549755813888
    · rwa [if_pos c] at hr
    · rw [if_neg c] at hr; cases hr
  refine RnT.brE h (fun c => ?_) (fun c => RnT.brE rfl (fun c2 => ?_) (fun c2 => ?_))
  · have c := of_decide_eq_true c
    refine RnT.gotoE rfl (fun z => ?_)
    refine Gd.obj s (bufE E ((l ++ m) ++ t.drop m.length)) ⟨_, upd1_self _ _ _, LeO.appT hf c⟩ ?_
    refine Gd.slot d (.osl s E.w 0 (l ++ m).length ((l ++ m) ++ t.drop m.length).length) (Le.eq ?_) ?_
    · show upd1 st.t d _ d = _
      rw [upd1_self]; simp only [List.length_append, List.length_drop] at c ⊢
      congr 1; omega
    · have := h3 r hA z
      show Gd _ k ⟨upd1 (upd1 st.t d _) d _, upd1 (upd1 st.L s _) s _⟩
      rw [upd1_upd1, upd1_upd1]; exact this
  · have c := of_decide_eq_false c
    have hd : t.drop m.length = [] := List.drop_eq_nil_of_le (by simp only [List.length_append] at c; omega)
    rw [hd] at h3
    refine RnT.gotoE rfl (fun z => ?_)
    refine Gd.obj s (bufE E ((l ++ m) ++ [])) ⟨_, upd1_self _ _ _, LeO.appN hf⟩ ?_
    refine Gd.slot d (.osl s E.w 0 (l ++ m).length ((l ++ m) ++ []).length) (Le.eq ?_) ?_
    · show upd1 st.t d _ d = _
      rw [upd1_self]; simp
    · have := h3 r hA z
      show Gd _ k ⟨upd1 (upd1 st.t d _) d _, upd1 (upd1 st.L s _) s _⟩
      rw [upd1_upd1, upd1_upd1]; exact this
  · have c2 := of_decide_eq_false c2
    rw [if_neg c2] at hr; cases hr
theorem drop_out {l t : List α} {m : Nat} (h : ¬ l.length + m ≤ (l ++ t).length) : t.drop m = [] := List.drop_eq_nil_of_le (by simp only [List.length_append] at h; omega)
theorem LeO.out {x : Ob} {l t : List α} {m : Nat} (h : t.drop m = []) (k : LeO x (bufE E l)) : LeO x (bufE E (l ++ t.drop m)) := by rw [h, List.append_nil]; exact k
theorem len_out {l t : List α} {m : Nat} (h : t.drop m = []) : l.length = (l ++ t.drop m).length := by rw [h, List.append_nil]
theorem Le.cap0 {s : Nat} {l : List α} : Le (.osl s E.w 0 l.length l.length) (.osl s E.w 0 l.length (l ++ ([] : List α)).length) := by rw [List.append_nil]; exact Le.refl _
end
end Go.EV
/-
New memory without elements, with room to spare (slices.Grow of nil).
-/
set_option linter.unusedSimpArgs false
set_option linter.unusedVariables false
namespace Go.EV
open Go Go.RowKit Go.Proofs
theorem getD_zeroCells (z : Value) (n i : Nat) (hi : i < n) : (Builtin.zeroCells #[z] n).getD i undef = z := by
  have hs : (Builtin.zeroCells #[z] n).size = n := by simp [Builtin.zeroCells]
  simp only [Array.getD, hs, hi, dite_true]
  simp [Builtin.zeroCells, Nat.mod_one]
theorem Ct.growNil {α : Type} {E : Enc α} {z : Value} (hw : E.w = 1) (hz : plain1 (E.c E.d 0) = some z) (hzc : z.cells = #[z]) {P : Program} {B : Bs} {f : FuncId} {T : TypeId} {n : Nat}
    (hcall : ∀ (vs : Array Value) (w : World), (callFunc f vs).run P w = .ok (.enter f vs) w)
    (h : 0 < n → ∀ w, Calls P f #[.slice none 0 0, .int .i64 n] w fun e w' => e = .returned (.slice (some ⟨w.heap.size, 0, none⟩) 0 (grownCap w (0 + n) 0 T)) ∧
      w' = w.drew.alloc (.cells (([] : List Value).toArray ++ Builtin.zeroCells z.cells (0 + n - 0) ++ Builtin.zeroCells z.cells (grownCap w (0 + n) 0 T - (0 + n))) T))
    (h0 : n = 0 → ∀ w, Calls P f #[.slice none 0 0, .int .i64 n] w fun e w' => e = .returned (.slice none 0 0) ∧ w' = w) :
    Ct P B f [.v (.slice none 0 0), .int .i64 n] (ofL []) (.osl 500000 E.w 0 0 n) (ofL [(500000, bufE E (([] : List α) ++ List.replicate n E.d))]) := by
  intro g w vs hs hr hO hB
  unfold Ent
  rw [hcall]
  have h1 : R g (szf (ofL [])) w (.v (.slice none 0 0)) (vs.getD 0 undef) := hr 0 (by simp)
  have h2 : R g (szf (ofL [])) w (.int .i64 n) (vs.getD 1 undef) := hr 1 (by simp)
  have e1 : vs.getD 0 undef = .slice none 0 0 := h1.v_inv
  have e2 := h2.int_inv
  have hvs : vs = #[.slice none 0 0, .int .i64 n] := by
    apply Array.ext
    · simpa using hs
    · intro i hi hi2
      rcases (by simp at hi2; omega : i = 0 ∨ i = 1) with rfl | rfl
      · simpa [Array.getD, hi] using e1
      · simpa [Array.getD, hi] using e2
  subst hvs
  have hL : ∀ (x : Ob), ofL [(500000, x)] 500000 = some x := fun x => by simp [ofL]
  have hL2 : ∀ (x : Ob) i, i ≠ 500000 → ofL [(500000, x)] i = none := fun x i hi => by simp [ofL, beq_ne hi]
  have hLe : ∀ x : Ob, (Eff.new 500000 x).app (ofL []) = ofL [(500000, x)] := fun x => by funext i; by_cases e : i = 500000 <;> simp [Eff.app, ofL, e]
  have hsz : szf (ofL [(500000, bufE E (([] : List α) ++ List.replicate n E.d))]) 500000 = n := by simp [szf, hL, szOf, bufE]
  by_cases hn : n = 0
  · refine (h0 hn w).mono fun e w' ⟨he, hw'⟩ => ?_
    rw [hw']
    subst hn
    have st := Stp.ghost hO (s := 500000) rfl E.w (rep E (([] : List α) ++ List.replicate 0 E.d))
    have st : Stp g (ofL []) w g (ofL [(500000, bufE E (([] : List α) ++ List.replicate 0 E.d))]) w := by
      have := st
      rw [hLe] at this
      exact this
    exact ⟨_, he, g, .osl0 _ _ _ hsz, st.o, st.f, st.k⟩
  · have hge := grownCap_ge w (0 + n) 0 T
    obtain ⟨G, hG⟩ : ∃ G, G = grownCap w (0 + n) 0 T := ⟨_, rfl⟩
    rw [← hG] at hge
    refine (h (by omega) w).mono fun e w' ⟨he, hw'⟩ => ?_
    rw [← hG] at he hw'
    rw [hzc] at hw'
    have hG' : n ≤ G := by omega
    have hO1 : OR g (ofL []) w.drew := hO.below (Below.drew (Below.refl w.heap.size w))
    have st := Stp.buf hO1 (s := 500000) rfl n G E.w (rep E (([] : List α) ++ List.replicate n E.d)) (([] : List Value).toArray ++ Builtin.zeroCells #[z] (0 + n - 0) ++ Builtin.zeroCells #[z] (G - (0 + n))) T hG'
      (by simp [Builtin.zeroCells, hw]; omega)
      (fun i j hi hj => by
        have hj0 : j = 0 := by rw [hw] at hj; omega
        subst hj0
        have e1 : (([] : List Value).toArray ++ Builtin.zeroCells #[z] (0 + n - 0) ++ Builtin.zeroCells #[z] (G - (0 + n))).getD (i * E.w + 0) undef = z := by
          rw [hw, Nat.mul_one, Nat.add_zero]
          have hs1 : (Builtin.zeroCells #[z] (0 + n - 0)).size = n := by simp [Builtin.zeroCells]
          have h2 := getD_zeroCells z (0 + n - 0) i (by omega)
          simp only [Array.getD, hs1, hi, dite_true] at h2
          have : i < (([] : List Value).toArray ++ Builtin.zeroCells #[z] (0 + n - 0) ++ Builtin.zeroCells #[z] (G - (0 + n))).size := by simp [Builtin.zeroCells]; omega
          simp only [Array.getD, this, dite_true]
          have key : ∀ (A B : Array Value) (h : i < (([] : List Value).toArray ++ A ++ B).size) (hA : i < A.size), (([] : List Value).toArray ++ A ++ B)[i] = A[i] := fun A B h hA => by
            simp [Array.getElem_append, hA]
          exact (key _ _ _ (by omega)).trans h2
        have e2 : rep E (([] : List α) ++ List.replicate n E.d) i 0 = E.c E.d 0 := by simp [rep, List.getD, hi]
        rw [e1, e2]
        exact ⟨F_plain1 hz, plain1_one hz⟩)
    rw [hLe] at st
    have hbuf : Ob.buf n E.w (rep E (([] : List α) ++ List.replicate n E.d)) = bufE E (([] : List α) ++ List.replicate n E.d) := by simp [bufE]
    rw [hbuf] at st
    have st := Stp.of_drew st
    subst hw'
    refine ⟨_, he, _, ?_, st.o, st.f, st.k⟩
    have hn0 : 0 < n := by omega
    have := R.osl 500000 E.w 0 0 n w.heap.size G (g := g.at 500000 w.heap.size G) (sz := szf (ofL [(500000, bufE E (([] : List α) ++ List.replicate n E.d))])) (w := w.drew.alloc (.cells (([] : List Value).toArray ++ Builtin.zeroCells #[z] (0 + n - 0) ++ Builtin.zeroCells #[z] (G - (0 + n))) T))
      (upd1_self g.β 500000 _) (by rw [hsz]; omega) (by omega) (by rw [hsz]; exact hG') hn0
    rwa [Nat.zero_mul, Nat.sub_zero] at this
/-- Room to spare that is none. -/
theorem LeO.t0 {α : Type} {E : Enc α} {l t : List α} (h : t.length = 0) : LeO (bufE E (l ++ t)) (bufE E l) := by
  have := List.eq_nil_of_length_eq_zero h
  subst this
  rw [List.append_nil]
  exact LeO.refl _
theorem len_t0 {α : Type} {l t : List α} (h : t.length = 0) : (l ++ t).length = l.length := by simp [h]
end Go.EV
/-
A map's keys, sorted (slices.Sorted(maps.Keys(m))).
-/
set_option linter.unusedSimpArgs false
set_option linter.unusedVariables false
namespace Go.EV
open Go Go.RowKit Go.Proofs Go.Maps Go.WideElems Go.MapKept
/-- A map's keys, sorted. -/
def sortB (K : List ByteArray) : List ByteArray := ((K.map fun s => s.data.toList).mergeSort leB).map fun b => ⟨b.toArray⟩
theorem sortB_len (K : List ByteArray) : (sortB K).length = K.length := by simp [sortB]
theorem ownsMap_of {P : Program} {k : TypeId} (hk : P.underlying k = some .string) {g : G} {sz : Nat → Nat} {w : World} {s : Nat} {K : List ByteArray} {f : Nat → AV} (h : ObR g sz w s (.mp (.strs K) f))
    (hnd : K.Nodup) (hlen : ∀ x ∈ K, x.size ≤ Go.maxLen) (hn : K.length ≤ Go.maxLen) :
    ∃ (b κ : Nat) (D0 : DataW Unit), g.β s = some (b, κ) ∧ w.ownsMap P k (fun _ => some (.nil, [])) b K.length D0 ∧ (strKeys D0).Perm (K.map fun s => s.data.toList) ∧ Maps.size D0 = K.length := by
  obtain ⟨b, κ, ms, hβ, hh, hks, hms⟩ := h
  have hks : ms.toList.map (·.key) = K.map fun s => Value.string s := hks
  have hsz : ms.size = K.length := by
    have := congrArg List.length hks
    simpa using this
  have hat : ∀ i (hi : i < ms.size), ms[i].key = .string (K[i]'(by omega)) := fun i hi => by
    have := congrArg (fun l => l[i]?) hks
    simpa [hi, show i < K.length by omega] using this
  have hkey : ∀ x ∈ ms.toList, ∃ s ∈ K, x.key = .string s := fun x hx => by
    obtain ⟨i, hi, rfl⟩ := List.getElem_of_mem hx
    have hi : i < ms.size := by simpa using hi
    exact ⟨_, List.getElem_mem _, by simpa using hat i hi⟩
  have hrd : ∀ x ∈ ms.toList, ∀ s, x.key = .string s → s ∈ K → rd (H := Unit) P k (fun _ => some (.nil, [])) x = some (.string s.data.toList, .nil) := fun x hx s e hs => by
    have : keyOf P k x.key = some (.string s.data.toList) := by
      rw [e]
      simp [keyOf, hk, mapKey, hlen s hs]
    simp [rd, this]
  have hfit : Fit (H := Unit) P k (fun _ => some (.nil, [])) ms ms.size := by
    refine ⟨by rw [hsz]; exact hn, ⟨fun x hx => ?_, ?_, ?_⟩, fun x hx => ?_⟩
    · obtain ⟨i, hi, rfl⟩ := List.getElem_of_mem hx
      have hi : i < ms.size := by simpa using hi
      have := (hms i hi).1
      simp only [Array.getElem_toList]
      omega
    · have : ms.toList.map (·.born) = List.range ms.size := by
        apply List.ext_getElem
        · simp
        · intro i h1 h2
          have hi : i < ms.size := by simpa using h1
          simpa using (hms i hi).1
      rw [this]
      exact List.nodup_range
    · rw [hks]
      exact List.nodup_iff_pairwise_ne.2 (List.pairwise_map.2 (hnd.imp fun {a b} hne e => hne (by injection e)))
    · obtain ⟨s, hs, e⟩ := hkey x hx
      exact ⟨_, hrd x hx s e hs⟩
  refine ⟨b, κ, _, hβ, ⟨ms, ms.size, hh, hfit, by omega, rfl⟩, ?_, ?_⟩
  · have hp := Go.WideShapes.sorted_perm (ms.toList.map (rg (H := Unit) P k fun _ => some (.nil, [])))
    refine (hp.map fun p => strOf p.1).trans (List.Perm.of_eq ?_)
    rw [List.map_map]
    apply List.ext_getElem
    · simp [hsz]
    · intro i h1 h2
      have hi : i < ms.size := by simpa using h1
      have hiK : i < K.length := by omega
      have e := hrd ms[i] (by simp) _ (hat i hi) (List.getElem_mem hiK)
      simp [rg_of e, strOf]
  · have hp := Go.WideShapes.sorted_perm (ms.toList.map (rg (H := Unit) P k fun _ => some (.nil, [])))
    show ((ms.toList.map (rg (H := Unit) P k fun _ => some (.nil, []))).foldr DataW.insert []).length = _
    rw [hp.length_eq]
    simp [hsz]
/-- What slices.Sorted does with what maps.Keys handed back. -/
def SortsKeys (P : Program) (fs gk k : Nat) : Prop :=
  ∀ (Bm b nn : Nat) (D0 : DataW Unit) (w : World), Bm < w.heap.size → w.cell? ⟨Bm, 0, none⟩ = some (.map (some b)) → w.ownsMap P k (fun _ => some (.nil, [])) b nn D0 → Maps.size D0 ≤ Go.maxLen → Maps.size D0 * 16 ≤ 140737488355328 →
    Calls P fs #[.func (.func gk) #[] #[.pointer (some ⟨Bm, 0, none⟩)]] w fun e w' => ∃ (v : Value) (ss : List (List UInt8)), e = .returned v ∧ ss.Perm (strKeys D0) ∧
      w'.ownsRow w.heap.size k 1 v ss.length ((ss.mergeSort leB).map encStr) ∧ (v = .slice none 0 0 ↔ ss = []) ∧ Below w.heap.size w w'
theorem sorts_core {P : Program} {fs gk k : Nat} (hk : P.underlying k = some .string) (h : SortsKeys P fs gk k) {g : G} {w : World} {K : List ByteArray} {f : Nat → AV} {vs : Array Value} {L : Obs} (hO : OR g L w)
    (hL1 : L 200000 = some (.box [.omap 600000])) (hL2 : L 600000 = some (.mp (.strs K) f)) (hs : vs.size = 1) (hr : R g (szf L) w (.fn gk [.ref 200000 1 0 0 1]) (vs.getD 0 undef))
    (hnd : K.Nodup) (hlen : ∀ x ∈ K, x.size ≤ Go.maxLen) (hn : K.length ≤ 1000000000000) :
    Calls P fs vs w fun e w' => ∃ v, e = .returned v ∧ w'.ownsRow w.heap.size k 1 v (sortB K).length ((sortB K).map Value.string) ∧ (v = .slice none 0 0 ↔ K = []) ∧ Below w.heap.size w w' := by
  obtain ⟨cs, e1, hc1, hc2⟩ := hr.fn_inv
  have hc0 : R g (szf L) w (.ref 200000 1 0 0 1) (cs.getD 0 undef) := hc2 0 (by simp)
  obtain ⟨bb, κb, hβb, ep⟩ := ref_inv hc0 (by simp [szf, hL1, szOf])
  obtain ⟨bb', κ', bcs, T, hβb', hhb, hbs, hbc⟩ := hO.ob 200000 _ hL1
  rw [hβb] at hβb'
  cases hβb'
  have hb0 : R g (szf L) w (.omap 600000) (bcs.getD 0 undef) := hbc 0 (by simp)
  obtain ⟨b, κ, ms, em, hβ, _⟩ := omap_inv hb0 hL2 hO
  obtain ⟨b', κ2, D0, hβ', hown, hperm, hsz⟩ := ownsMap_of (P := P) hk (hO.ob 600000 _ hL2) hnd hlen (Nat.le_trans hn (by decide))
  rw [hβ] at hβ'
  cases hβ'
  have hvs : vs = #[.func (.func gk) #[] #[.pointer (some ⟨bb, 0, none⟩)]] := by
    have hcs : cs = #[.pointer (some ⟨bb, 0, none⟩)] := by
      apply Array.ext
      · simpa using hc1
      · intro i hi hi2
        obtain rfl : i = 0 := by simp at hi2; omega
        simpa [Array.getD, hi] using ep
    apply Array.ext
    · simpa using hs
    · intro i hi hi2
      obtain rfl : i = 0 := by simp at hi2; omega
      rw [hcs] at e1
      simpa [Array.getD, hi] using e1
  have hcell : w.cell? ⟨bb, 0, none⟩ = some (.map (some b)) := by
    have hlt : 0 < bcs.size := by rw [hbs]; simp
    rw [← em]
    exact cell_of hhb (o := 0) hlt
  rw [hvs]
  refine (h bb b K.length D0 w (Array.getElem?_eq_some_iff.1 hhb).1 hcell hown (by rw [hsz]; exact Nat.le_trans hn (by decide)) (by rw [hsz]; omega)).mono fun e w' ⟨v, ss, he, hp, hrow, hnil, hb⟩ => ⟨v, he, ?_, ?_, hb⟩
  · have hq : ss.mergeSort leB = (K.map fun s => s.data.toList).mergeSort leB := mergeSort_of_perm (hp.trans hperm)
    have hl : ss.length = (sortB K).length := by
      rw [(hp.trans hperm).length_eq]
      simp [sortB]
    rw [hq, hl] at hrow
    have : (sortB K).map Value.string = ((K.map fun s => s.data.toList).mergeSort leB).map encStr := by
      unfold sortB
      rw [List.map_map]
      exact List.map_congr_left fun x _ => rfl
    rw [this]
    exact hrow
  · rw [hnil]
    have := (hp.trans hperm).length_eq
    constructor
    · intro e0
      rw [e0] at this
      exact List.eq_nil_of_length_eq_zero (by simpa using this.symm)
    · intro e0
      rw [e0] at this
      exact List.eq_nil_of_length_eq_zero (by simpa using this)
/-- The keys, sorted: a slice that nobody writes. -/
theorem Ct.sortedKeys {P : Program} {B : Bs} {fs gk k : Nat} (hcall : ∀ (vs : Array Value) (w : World), (callFunc fs vs).run P w = .ok (.enter fs vs) w) (hk : P.underlying k = some .string) (h : SortsKeys P fs gk k)
    {K : List ByteArray} {f : Nat → AV} (hnd : K.Nodup) (hlen : ∀ x ∈ K, x.size ≤ Go.maxLen) (hn : K.length ≤ 1000000000000) :
    Ct P B fs [.fn gk [.ref 200000 1 0 0 1]] (ofL [(200000, .box [.omap 600000]), (600000, .mp (.strs K) f)]) (sq eS (sortB K)) (ofL [(200000, .box [.omap 600000]), (600000, .mp (.strs K) f)]) := by
  intro g w vs hs hr hO hB
  unfold Ent
  rw [hcall]
  refine (sorts_core hk h (f := f) hO rfl rfl (by simpa using hs) (hr 0 (by simp)) hnd hlen hn).mono fun e w' ⟨v, he, hrow, hnil, hb⟩ => ?_
  have hN : NewSl eS (sortB K) w v w' := by
    rcases hrow.2 with ⟨rfl, hz⟩ | ⟨gb, cap, cur, rfl, hbase, hgb, r1, r2, r3, r4⟩
    · exact ⟨none, 0, by rw [hz], by omega, hb, fun h0 => by omega⟩
    · refine ⟨_, cap, rfl, r1, hb, fun _ => ⟨gb, cur, k, rfl, hbase, hgb, r3, fun i j hi hj => ?_⟩⟩
      have hj0 : j = 0 := by simp [eS] at hj; omega
      subst hj0
      have hlt : i < cur.size := by rw [r3]; omega
      have := congrArg (fun l => l[i]?) r4
      have e0 : cur[i]'hlt = .string ((sortB K)[i]) := by simpa [hi, hlt] using this
      have e1 : cur.getD (i * eS.w + 0) undef = .string ((sortB K)[i]) := by
        show cur.getD (i * 1 + 0) undef = _
        rw [Nat.mul_one, Nat.add_zero, ← e0]
        simp [Array.getD, hlt]
      rw [e1]
      simp [rep, eS, plain1, List.getD, hi]
  obtain ⟨g', h1, h2, h3, h4⟩ := hN.fz hO
  exact ⟨v, he, g', h1, h2, h3, fun s hs => ⟨hs, .inl ⟨rfl, by rw [h4]⟩⟩⟩
/-- .. a slice of the caller's own. -/
theorem Ct.sortedKeysO {P : Program} {B : Bs} {fs gk k : Nat} (hcall : ∀ (vs : Array Value) (w : World), (callFunc fs vs).run P w = .ok (.enter fs vs) w) (hk : P.underlying k = some .string) (h : SortsKeys P fs gk k)
    {K : List ByteArray} {f : Nat → AV} (hnd : K.Nodup) (hlen : ∀ x ∈ K, x.size ≤ Go.maxLen) (hn : K.length ≤ 1000000000000) :
    Ct P B fs [.fn gk [.ref 200000 1 0 0 1]] (ofL [(200000, .box [.omap 600000]), (600000, .mp (.strs K) f)]) (.osl 500000 eS.w 0 (sortB K).length (sortB K).length)
      (ofL [(200000, .box [.omap 600000]), (600000, .mp (.strs K) f), (500000, bufE eS (sortB K))]) := by
  intro g w vs hs hr hO hB
  unfold Ent
  rw [hcall]
  refine (sorts_core hk h (f := f) hO rfl rfl (by simpa using hs) (hr 0 (by simp)) hnd hlen hn).mono fun e w' ⟨v, he, hrow, hnil, hb⟩ => ?_
  have hLe : ∀ i, i ≠ 500000 → ofL [(200000, .box [.omap 600000]), (600000, .mp (.strs K) f), (500000, bufE eS (sortB K))] i = ofL [(200000, .box [.omap 600000]), (600000, .mp (.strs K) f)] i := fun i hi => by simp [ofL, beq_ne hi]
  have hLs : ofL [(200000, .box [.omap 600000]), (600000, .mp (.strs K) f), (500000, bufE eS (sortB K))] 500000 = some (bufE eS (sortB K)) := rfl
  have hL0 : ofL [(200000, .box [.omap 600000]), (600000, .mp (.strs K) f)] 500000 = none := rfl
  have hsz : szf (ofL [(200000, .box [.omap 600000]), (600000, .mp (.strs K) f), (500000, bufE eS (sortB K))]) 500000 = (sortB K).length := rfl
  have hn0 := hO.none_of hL0
  rcases hrow.2 with ⟨rfl, hz⟩ | ⟨gb, cap, cur, rfl, hbase, hgb, r1, r2, r3, r4⟩
  · have st : Stp g (ofL [(200000, .box [.omap 600000]), (600000, .mp (.strs K) f)]) w g (ofL [(200000, .box [.omap 600000]), (600000, .mp (.strs K) f), (500000, bufE eS (sortB K))]) w' := by
      refine Stp.one hO 500000 hb.os hb.tape hb.output hb.size (fun _ _ => rfl) hLe rfl (fun b' hb' _ => hb.block b' hb') (fun b' κ h => by rw [hn0] at h; cases h) (.inl hL0) ?_
      intro hm o ho
      rw [hLs] at ho
      cases ho
      exact .inl hz
    refine ⟨_, he, g, ?_, st.o, st.f, st.k⟩
    rw [hz]
    exact .osl0 _ _ _ (by rw [hsz, hz])
  · rcases Nat.eq_zero_or_pos (sortB K).length with h0 | h0
    · exfalso
      have : K = [] := by rw [sortB_len] at h0; exact List.eq_nil_of_length_eq_zero h0
      exact absurd (hnil.2 this) (by simp)
    · have st : Stp g (ofL [(200000, .box [.omap 600000]), (600000, .mp (.strs K) f)]) w (g.at 500000 gb cap) (ofL [(200000, .box [.omap 600000]), (600000, .mp (.strs K) f), (500000, bufE eS (sortB K))]) w' := by
        refine Stp.one hO 500000 hb.os hb.tape hb.output hb.size (fun i hi => upd1_ne _ _ hi) hLe rfl (fun b' hb' _ => hb.block b' hb') (fun b' κ' h => ?_) (.inl hL0) ?_
        · have h : some (gb, cap) = some (b', κ') := by simpa [G.at, upd1_self] using h
          cases h
          exact ⟨by rw [hLs]; rfl, (Array.getElem?_eq_some_iff.1 hgb).1, .inl hbase⟩
        · intro hm o ho
          rw [hLs] at ho
          cases ho
          refine .inr ⟨gb, cap, cur, k, upd1_self g.β 500000 _, hgb, r1, r3, fun i j hi hj => ?_⟩
          have hj0 : j = 0 := by simp [eS] at hj; omega
          subst hj0
          have hlt : i < cur.size := by rw [r3]; omega
          have := congrArg (fun l => l[i]?) r4
          have e0 : cur[i]'hlt = .string ((sortB K)[i]) := by simpa [hi, hlt] using this
          have e1 : cur.getD (i * eS.w + 0) undef = .string ((sortB K)[i]) := by
            show cur.getD (i * 1 + 0) undef = _
            rw [Nat.mul_one, Nat.add_zero, ← e0]
            simp [Array.getD, hlt]
          rw [e1]
          have e2 : rep eS (sortB K) i 0 = .str ((sortB K)[i]) := by simp [rep, eS, List.getD, hi]
          rw [e2]
          exact ⟨.str _, rfl⟩
      refine ⟨_, he, _, ?_, st.o, st.f, st.k⟩
      have := R.osl 500000 eS.w 0 (sortB K).length (sortB K).length gb cap (g := g.at 500000 gb cap) (sz := szf (ofL [(200000, .box [.omap 600000]), (600000, .mp (.strs K) f), (500000, bufE eS (sortB K))])) (w := w')
        (upd1_self g.β 500000 _) (by rw [hsz]; omega) (Nat.le_refl _) (by rw [hsz]; exact r1) h0
      rwa [Nat.zero_mul, Nat.sub_zero] at this
/-- maps.Keys: a function value over a new variable that holds the map. -/
theorem Ct.mapsKeys {P : Program} {B : Bs} {fk gk : Nat} {T : TypeId} (hcall : ∀ (vs : Array Value) (w : World), (callFunc fk vs).run P w = .ok (.enter fk vs) w)
    (h : ∀ (mb : Option Nat) (w : World), Calls P fk #[.map mb] w fun e w' => e = .returned (.func (.func gk) #[] #[.pointer (some ⟨w.heap.size, 0, none⟩)]) ∧ w' = w.alloc (.cells #[.map mb] T)) {ks : KL} {f : Nat → AV} :
    Ct P B fk [.omap 100000] (ofL [(100000, .mp ks f)]) (.fn gk [.ref 500000 1 0 0 1]) (ofL [(100000, .mp ks f), (500000, .box [.omap 100000])]) := by
  intro g w vs hs hr hO hB
  unfold Ent
  rw [hcall]
  obtain ⟨b, κ, ms, em, hβ, _⟩ := omap_inv (hr 0 (by simp)) (ks := ks) (f := f) rfl hO
  have hvs : vs = #[.map (some b)] := by
    apply Array.ext
    · simpa using hs
    · intro i hi hi2
      obtain rfl : i = 0 := by simp at hi2; omega
      simpa [Array.getD, hi] using em
  rw [hvs]
  refine (h (some b) w).mono fun e w' ⟨he, hw'⟩ => ?_
  rw [hw']
  have st := Stp.box hO (s := 500000) rfl [.omap 100000] #[.map (some b)] T (by simp) (fun i hi => by
    obtain rfl : i = 0 := by simp at hi; omega
    have h0 := hr 0 (by simp)
    have e0 : vs.getD 0 undef = .map (some b) := em
    show R g _ w (.omap 100000) (.map (some b))
    rw [← e0]
    exact h0)
  have hLe : (Eff.new 500000 (.box [.omap 100000])).app (ofL [(100000, .mp ks f)]) = ofL [(100000, .mp ks f), (500000, .box [.omap 100000])] := by
    funext i
    by_cases e1 : i = 100000
    · subst e1; rfl
    · by_cases e2 : i = 500000
      · subst e2; rfl
      · simp [Eff.app, ofL, beq_ne e1, beq_ne e2]
  rw [hLe] at st
  refine ⟨_, he, _, ?_, st.o, st.f, st.k⟩
  refine .fn gk [.ref 500000 1 0 0 1] #[.pointer (some ⟨w.heap.size, 0, none⟩)] (by simp) fun i hi => ?_
  obtain rfl : i = 0 := by simp at hi; omega
  have := R.ref 500000 1 0 0 1 w.heap.size 1 (g := g.at 500000 w.heap.size 1) (sz := szf (ofL [(100000, .mp ks f), (500000, .box [.omap 100000])])) (w := w.alloc (.cells #[.map (some b)] T)) rfl (upd1_self g.β 500000 _)
  rwa [Nat.zero_mul, Nat.zero_add] at this
end Go.EV
namespace Go.EV
open Go Go.RowKit Go.Sort Go.Proofs
set_option linter.unusedSimpArgs false
set_option linter.unusedVariables false
/-! ### rows of strings, told by lists of bytes -/
def compS (K : List ByteArray) : List ByteArray := (Lib.compact (K.map fun s => s.data.toList)).map fun b => ⟨b.toArray⟩
theorem map_mk_data (l : List (List UInt8)) : (l.map fun b => (⟨b.toArray⟩ : ByteArray)).map (fun s => s.data.toList) = l := by
  rw [List.map_map]
  conv => rhs; rw [← List.map_id l]
  rfl
theorem map_data_mk (l : List ByteArray) : (l.map fun s => s.data.toList).map (fun b => (⟨b.toArray⟩ : ByteArray)) = l := by
  rw [List.map_map]
  conv => rhs; rw [← List.map_id l]
  rfl
theorem compact_len {α : Type} [DecidableEq α] [Inhabited α] (l : List α) : (Lib.compact l).length ≤ l.length := by
  unfold Lib.compact Lib.compactUpTo
  rw [List.length_map]
  exact Nat.le_trans (List.length_filter_le _ _) (by simp)
theorem compS_len (K : List ByteArray) : (compS K).length ≤ K.length := by
  unfold compS
  rw [List.length_map]
  exact Nat.le_trans (compact_len _) (by simp)
theorem str_get {l : List ByteArray} {j : Nat} (hj : j < l.length) : encStr ((l.map fun s => s.data.toList).toArray[j]!) = Value.string (l.toArray[j]!) := by
  have e1 : (l.map fun s => s.data.toList).toArray[j]! = (l[j]).data.toList := by simp [hj]
  have e2 : l.toArray[j]! = l[j] := by simp [hj]
  rw [e1, e2]
theorem strRow_holds {w : World} {b : Nat} {l : List ByteArray} (h : Holds Value.string w b 0 l.toArray) : Holds encStr w b 0 (l.map fun s => s.data.toList).toArray := fun j hj => by
  have hj' : j < l.length := by simpa using hj
  have h1 := h j (by simpa using hj')
  rw [str_get hj']
  exact h1
theorem strRow_cells (l : List ByteArray) (c : Array Value) : putCells encStr 0 (l.map fun s => s.data.toList).toArray c = putCells Value.string 0 l.toArray c := by
  unfold putCells
  apply Array.ext
  · simp
  · intro i h1 h2
    have hs : (l.map fun s => s.data.toList).toArray.size = l.length := by simp
    simp only [Array.getElem_mapIdx, hs, List.size_toArray]
    split
    · rename_i hc
      exact str_get (by omega)
    · rfl
theorem strRow_put (w : World) (b : Nat) (l : List ByteArray) : putRow encStr w b 0 (l.map fun s => s.data.toList).toArray = putRow Value.string w b 0 l.toArray := by
  unfold putRow
  have : putCells encStr 0 (l.map fun s => s.data.toList).toArray = putCells Value.string 0 l.toArray := funext fun c => strRow_cells l c
  rw [this]
theorem sortB_map (l : List ByteArray) : (sortB l).map (fun s => s.data.toList) = (l.map fun s => s.data.toList).mergeSort fun x y => decide (x ≤ y) := by
  unfold sortB
  rw [map_mk_data]
theorem compS_map (l : List ByteArray) : (compS l).map (fun s => s.data.toList) = Lib.compact (l.map fun s => s.data.toList) := by
  unfold compS
  rw [map_mk_data]
theorem empty_map (n : Nat) : (List.replicate n ByteArray.empty).map (fun s => s.data.toList) = List.replicate n [] := by simp
/-! ### lists put behind lists in regions that draw -/
variable {α : Type} {E : Enc α}
theorem LeO.appA {l m : List α} {f1 f2 : Nat → Nat → AV} (h1 : ∀ i j, i < l.length → j < E.w → f1 i j = rep E l i j) (c : l.length + m.length ≤ l.length) :
    LeO (.buf l.length E.w fun i j => bif Nat.ble l.length i && Nat.blt i (l.length + m.length) then f2 (i - l.length) j else f1 i j) (bufE E (l ++ m)) := by
  have hm : m = [] := List.eq_nil_of_length_eq_zero (by omega)
  subst hm
  refine LeO.buf (by simp) fun i j hi hj => ?_
  have : (Nat.ble l.length i && Nat.blt i (l.length + ([] : List α).length)) = false := by
    rw [Bool.eq_false_iff]; intro hh; simp only [Bool.and_eq_true, Nat.ble_eq, Nat.blt_eq] at hh; omega
  simp only [this, cond_false, List.append_nil]
  exact h1 i j hi hj
theorem LeO.appB {l m : List α} {f1 f2 : Nat → Nat → AV} (h1 : ∀ i j, i < l.length → j < E.w → f1 i j = rep E l i j) (h : ∀ i j, i < m.length → j < E.w → f2 i j = rep E m i j) :
    LeO (.buf (l.length + m.length) E.w fun i j => bif Nat.blt i l.length then f1 i j else f2 (i - l.length) j) (bufE E (l ++ m)) := by
  refine LeO.buf (by simp) fun i j hi hj => ?_
  cases hb : Nat.blt i l.length with
  | true =>
    have hb' := Nat.blt_eq.mp hb
    simp only [cond_true, h1 i j hb' hj, rep, List.getD]
    rw [List.getElem?_append_left hb']
  | false =>
    have hb' : ¬ i < l.length := fun e => by rw [Nat.blt_eq.mpr e] at hb; cases hb
    simp only [cond_false, h (i - l.length) j (by omega) hj, rep, List.getD]
    rw [List.getElem?_append_right (by omega)]
theorem rep_src {y t : List α} {i j : Nat} (h : i < y.length) : rep E (y ++ t) (0 + i) j = rep E y i j := by
  rw [Nat.zero_add]
  simp only [rep, List.getD]
  rw [List.getElem?_append_left h]
theorem len_appA {l m : List α} (c : l.length + m.length ≤ l.length) : l.length = (l ++ m).length := by rw [List.length_append]; omega
end Go.EV
