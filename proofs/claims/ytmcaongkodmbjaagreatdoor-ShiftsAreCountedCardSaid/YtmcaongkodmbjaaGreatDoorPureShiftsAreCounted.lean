/- The plain law: the Lean functions answer true for every list. -/
import Derived.Test.YtmcaongkodmbjaaGreatDoorXShiftsAreCounted
import Derived.KernelRfl
import Derived.Lib.SlTrimSet
set_option linter.unusedVariables false
set_option linter.unusedSimpArgs false
/-! Plain laws that all statements use: numbers that don't wrap, functions with fuel, loops over lists, the stream's draws. -/
namespace Go.EV.Pure
open Go Go.EV Go.RowKit
theorem wrap_id {e : Int} (h1 : -9223372036854775808 ≤ e) (h2 : e ≤ 9223372036854775807) : wrap64 e = e := by
  unfold wrap64
  omega
theorem tdiv_pos {a n : Int} (h : 0 ≤ a) : a.tdiv n = a / n := Int.tdiv_eq_ediv_of_nonneg h
theorem rd_get (l : List Int) (i : Nat) (h : i < l.length) : rd l (i : Int) = l[i] := by
  simp [rd, List.getD, List.getElem?_eq_getElem h]
theorem rdE_get {α : Type} (E : Enc α) (l : List α) (i : Nat) (h : i < l.length) : rdE E l (i : Int) = l[i] := by
  simp [rdE, List.getD, List.getElem?_eq_getElem h]
theorem rd_mem (l : List Int) (i : Int) (h0 : 0 ≤ i) (h1 : i < l.length) : rd l i ∈ l := by
  have h : i.toNat < l.length := by omega
  have : rd l i = l[i.toNat] := by simp [rd, List.getD, List.getElem?_eq_getElem h]
  rw [this]
  exact List.getElem_mem h
theorem rdE_mem {α : Type} (E : Enc α) (l : List α) (i : Int) (h0 : 0 ≤ i) (h1 : i < l.length) : rdE E l i ∈ l := by
  have h : i.toNat < l.length := by omega
  have : rdE E l i = l[i.toNat] := by simp [rdE, List.getD, List.getElem?_eq_getElem h]
  rw [this]
  exact List.getElem_mem h
theorem wrap_succ {i : Nat} (h : i ≤ 1000000000000000) : wrap64 ((i : Int) + 1) = ((i + 1 : Nat) : Int) := by rw [wrap_id (by omega) (by omega)]; omega

/-- From some fuel on the function answers v. -/
def Ev {α : Type} (f : Nat → Option α) (v : α) : Prop := ∃ K, ∀ k, K ≤ k → f k = some v
section
variable {α β : Type}
theorem Ev.now (v : α) : Ev (fun _ => some v) v := ⟨0, fun _ _ => rfl⟩
theorem Ev.of {f : Nat → Option α} {v : α} (h : ∀ k, f k = some v) : Ev f v := ⟨0, fun k _ => h k⟩
theorem Ev.from {f : Nat → Option α} {v : α} (n : Nat) (h : ∀ k, f (k + n) = some v) : Ev f v := ⟨n, fun k hk => by
  obtain ⟨m, rfl⟩ : ∃ m, k = m + n := ⟨k - n, by omega⟩
  exact h m⟩
theorem Ev.bind {f : Nat → Option α} {a : α} {g : Nat → α → Option β} {v : β} (h : Ev f a) (h2 : Ev (fun k => g k a) v) : Ev (fun k => (f k).bind (g k)) v := by
  obtain ⟨K, h⟩ := h
  obtain ⟨K2, h2⟩ := h2
  exact ⟨max K K2, fun k hk => by show (f k).bind (g k) = some v; rw [h k (by omega)]; exact h2 k (by omega)⟩
theorem Ev.step {g f : Nat → Option α} {v : α} (h : ∀ k, g (k + 1) = f k) (h2 : Ev f v) : Ev g v := by
  obtain ⟨K, h2⟩ := h2
  exact ⟨K + 1, fun k hk => by
    obtain ⟨m, rfl⟩ : ∃ m, k = m + 1 := ⟨k - 1, by omega⟩
    rw [h m]; exact h2 m (by omega)⟩
theorem Ev.succ {g : Nat → Option α} {v : α} (h : Ev (fun k => g (k + 1)) v) : Ev g v := Ev.step (fun _ => rfl) h
theorem Ev.ex {f : Nat → Option α} {v : α} (h : Ev f v) : ∃ k, f k = some v := let ⟨K, h⟩ := h; ⟨K, h K (Nat.le_refl _)⟩
theorem Ev.pos {p : Prop} [Decidable p] {f g : Nat → Option α} {v : α} (c : p) (h1 : Ev f v) : Ev (fun k => if p then f k else g k) v := by simp only [if_pos c]; exact h1
theorem Ev.neg {p : Prop} [Decidable p] {f g : Nat → Option α} {v : α} (c : ¬ p) (h1 : Ev g v) : Ev (fun k => if p then f k else g k) v := by simp only [if_neg c]; exact h1

/-- A loop over a list by its index: what holds of its state carries over each round, or the round is the last one. -/
theorem loop {σ ρ : Type} (l : List α) (F : Nat → Int → σ → Option ρ) (I : Nat → σ → Prop) (post : ρ → Prop)
    (hstep : ∀ (i : Nat) (s : σ), i < l.length → I i s → (∃ s', I (i + 1) s' ∧ ∀ v, Ev (fun k => F k ((i + 1 : Nat) : Int) s') v → Ev (fun k => F k (i : Int) s) v) ∨ ∃ v, post v ∧ Ev (fun k => F k (i : Int) s) v)
    (hend : ∀ s, I l.length s → ∃ v, post v ∧ Ev (fun k => F k (l.length : Int) s) v) :
    ∀ (i : Nat) (s : σ), i ≤ l.length → I i s → ∃ v, post v ∧ Ev (fun k => F k (i : Int) s) v := by
  intro i
  generalize hd : l.length - i = d
  induction d generalizing i with
  | zero =>
    intro s hi hI
    obtain rfl : i = l.length := by omega
    exact hend s hI
  | succ d ih =>
    intro s hi hI
    rcases hstep i s (by omega) hI with ⟨s', h1, h2⟩ | h
    · obtain ⟨v, h3, h4⟩ := ih (i + 1) (by omega) s' (by omega) h1
      exact ⟨v, h3, h2 v h4⟩
    · exact h
end
end Go.EV.Pure
namespace Go.EV.Pure
open Go Go.EV Go.RowKit
set_option linter.unusedSimpArgs false
/-! A map's keys, sorted, are the list, sorted and made compact. -/
theorem keeps_iff {α : Type} [DecidableEq α] [Inhabited α] (d : Array α) (m : Nat) : Lib.keeps d m = true ↔ (m = 0 ∨ d[m]! ≠ d[m - 1]!) := by
  rcases Nat.eq_zero_or_pos m with h | h
  · subst h
    exact ⟨fun _ => .inl rfl, fun _ => Lib.keeps_lt_one d 0 (by omega)⟩
  · constructor
    · intro hk
      refine .inr fun e => ?_
      rw [Lib.keeps_neg h e] at hk
      cases hk
    · rintro (h0 | h0)
      · omega
      · exact Lib.keeps_pos h0
theorem leT (a b c : List UInt8) (h1 : leB a b = true) (h2 : leB b c = true) : leB a c = true := by
  simp only [leB, decide_eq_true_eq] at *
  exact List.le_trans h1 h2
theorem leA (a b : List UInt8) (h1 : leB a b = true) (h2 : leB b a = true) : a = b := by
  simp only [leB, decide_eq_true_eq] at *
  exact List.le_antisymm h1 h2
theorem leR (a : List UInt8) : leB a a = true := by
  simp only [leB, decide_eq_true_eq]
  exact List.le_refl a
theorem leTot (a b : List UInt8) : (leB a b || leB b a) = true := by
  simp only [leB, Bool.or_eq_true, decide_eq_true_eq]
  exact List.le_total a b
/-- What is kept of a sorted row: each one once, in order. -/
theorem compact_run (d : Array (List UInt8)) (hs : ∀ i j, i ≤ j → j < d.size → leB d[i]! d[j]! = true) : ∀ m, m ≤ d.size →
    (Lib.compactUpTo d m).Pairwise (fun a b => leB a b = true ∧ a ≠ b) ∧ (∀ x, x ∈ Lib.compactUpTo d m ↔ ∃ j < m, d[j]! = x) := by
  intro m
  induction m with
  | zero =>
    intro _
    have : Lib.compactUpTo d 0 = [] := rfl
    rw [this]
    exact ⟨List.Pairwise.nil, fun x => ⟨fun h => (by cases h), fun ⟨j, hj, _⟩ => (by omega)⟩⟩
  | succ m ih =>
    intro hm
    obtain ⟨p, q⟩ := ih (by omega)
    rw [Lib.compactUpTo_succ]
    by_cases hk : Lib.keeps d m = true
    · rw [if_pos hk]
      constructor
      · refine List.pairwise_append.2 ⟨p, List.pairwise_singleton _ _, fun a ha b hb => ?_⟩
        rw [List.mem_singleton] at hb
        subst hb
        obtain ⟨j, hj, rfl⟩ := (q a).1 ha
        have h1 := hs j m (by omega) (by omega)
        refine ⟨h1, fun e => ?_⟩
        rcases (keeps_iff d m).1 hk with h0 | h0
        · omega
        · have h2 := hs j (m - 1) (by omega) (by omega)
          have h3 := hs (m - 1) m (by omega) (by omega)
          rw [e] at h2
          exact h0 (leA _ _ h2 h3)
      · intro x
        rw [List.mem_append, List.mem_singleton, q x]
        constructor
        · rintro (⟨j, hj, e⟩ | rfl)
          · exact ⟨j, by omega, e⟩
          · exact ⟨m, by omega, rfl⟩
        · rintro ⟨j, hj, e⟩
          rcases Nat.lt_or_ge j m with h | h
          · exact .inl ⟨j, h, e⟩
          · obtain rfl : j = m := by omega
            exact .inr e.symm
    · rw [if_neg hk, List.append_nil]
      refine ⟨p, fun x => ?_⟩
      rw [q x]
      constructor
      · rintro ⟨j, hj, e⟩
        exact ⟨j, by omega, e⟩
      · rintro ⟨j, hj, e⟩
        rcases Nat.lt_or_ge j m with h | h
        · exact ⟨j, h, e⟩
        · obtain rfl : j = m := by omega
          have hn : ¬ (j = 0 ∨ d[j]! ≠ d[j - 1]!) := fun h => hk ((keeps_iff d j).2 h)
          have h0 : j ≠ 0 := fun e => hn (.inl e)
          have h1 : d[j]! = d[j - 1]! := Classical.byContradiction fun e => hn (.inr e)
          exact ⟨j - 1, by omega, by rw [← h1, e]⟩
theorem sorted_get (L : List (List UInt8)) (hL : L.Pairwise fun a b => leB a b = true) : ∀ i j, i ≤ j → j < L.toArray.size → leB L.toArray[i]! L.toArray[j]! = true := by
  intro i j hij hj
  have hj' : j < L.length := by simpa using hj
  have e1 : L.toArray[i]! = L[i] := by simp [show i < L.length by omega]
  have e2 : L.toArray[j]! = L[j] := by simp [hj']
  rw [e1, e2]
  rcases Nat.lt_or_ge i j with h | h
  · exact List.pairwise_iff_getElem.1 hL i j (by omega) hj' h
  · obtain rfl : i = j := by omega
    exact leR _
theorem once_keys (K M : List (List UInt8)) (hK : K.Nodup) (hm : ∀ x, x ∈ K ↔ x ∈ M) : K.mergeSort leB = Lib.compact (M.mergeSort leB) := by
  have hs := List.pairwise_mergeSort leT leTot M
  have hr := compact_run (M.mergeSort leB).toArray (sorted_get _ hs) (M.mergeSort leB).length (by simp)
  obtain ⟨p, q⟩ := hr
  have hnd : (Lib.compact (M.mergeSort leB)).Nodup := p.imp fun h => h.2
  have hmem : ∀ x, x ∈ Lib.compact (M.mergeSort leB) ↔ x ∈ M := fun x => by
    show x ∈ Lib.compactUpTo _ _ ↔ _
    rw [q x, ← List.mem_mergeSort (le := leB)]
    constructor
    · rintro ⟨j, hj, rfl⟩
      have : (M.mergeSort leB).toArray[j]! = (M.mergeSort leB)[j] := by simp [show j < M.length by simpa using hj]
      rw [this]
      exact List.getElem_mem _
    · intro hx
      obtain ⟨j, hj, rfl⟩ := List.getElem_of_mem hx
      exact ⟨j, hj, by simp [show j < M.length by simpa using hj]⟩
  have hnK : (K.mergeSort leB).Nodup := (List.mergeSort_perm K leB).nodup_iff.2 hK
  refine List.Perm.eq_of_pairwise (le := fun a b => leB a b = true) (fun a b _ _ h1 h2 => leA a b h1 h2) (List.pairwise_mergeSort leT leTot K) (p.imp fun h => h.1) ?_
  refine (List.perm_ext_iff_of_nodup hnK hnd).2 fun x => ?_
  rw [List.mem_mergeSort, hm x, hmem x]
theorem data_inj {a b : ByteArray} (h : a.data.toList = b.data.toList) : a = b := by
  apply ByteArray.ext
  exact Array.toList_inj.1 h
theorem sort_once (K M : List ByteArray) (hK : K.Nodup) (hm : ∀ x, x ∈ K ↔ x ∈ M) : compS (sortB M) = sortB K := by
  unfold compS sortB
  rw [map_mk_data, once_keys (K.map fun s => s.data.toList) (M.map fun s => s.data.toList)]
  · exact List.nodup_iff_pairwise_ne.2 (List.pairwise_map.2 (hK.imp fun hne e => hne (data_inj e)))
  · intro x
    rw [List.mem_map, List.mem_map]
    constructor
    · rintro ⟨a, ha, rfl⟩
      exact ⟨a, (hm a).1 ha, rfl⟩
    · rintro ⟨a, ha, rfl⟩
      exact ⟨a, (hm a).2 ha, rfl⟩
end Go.EV.Pure
namespace Go.EV.Pure
open Go Go.EV Go.RowKit
set_option linter.unusedSimpArgs false
/-! Maps as lists of pairs, counts and sums; ranges over maps in any order. -/
theorem mput_mem {β : Type} (l : List (ByteArray × β)) (k : ByteArray) (v : β) (x : ByteArray) : x ∈ (mput l k v).map Prod.fst ↔ x ∈ l.map Prod.fst ∨ x = k := by
  rw [mput_keys]
  split
  · rename_i h
    exact ⟨fun q => .inl q, fun q => q.elim id (fun e => e ▸ h)⟩
  · rw [List.mem_append, List.mem_singleton]
theorem mput_nodup {β : Type} (l : List (ByteArray × β)) (k : ByteArray) (v : β) (h : (l.map Prod.fst).Nodup) : ((mput l k v).map Prod.fst).Nodup := by
  rw [mput_keys]
  split
  · exact h
  · rename_i hn
    exact List.nodup_append.2 ⟨h, by simp, fun a ha b hb => by rw [List.mem_singleton] at hb; rw [hb]; exact fun e => hn (e ▸ ha)⟩
theorem mput_len {β : Type} (l : List (ByteArray × β)) (k : ByteArray) (v : β) : (mput l k v).length ≤ l.length + 1 := by
  unfold mput
  split
  · rw [List.length_set]; omega
  · simp
theorem mget_not {β : Type} (d : β) (l : List (ByteArray × β)) (k : ByteArray) (h : k ∉ l.map Prod.fst) : mget d l k = d := by
  unfold mget
  have h1 := mt List.idxOf_lt_length_iff.1 h
  rw [List.getD, List.getElem?_eq_none (by simp at h1 ⊢; omega)]
  rfl
theorem mget_put {β : Type} (d : β) (l : List (ByteArray × β)) (k : ByteArray) (v : β) (x : ByteArray) : mget d (mput l k v) x = if x = k then v else mget d l x := by
  by_cases hx : x ∈ (mput l k v).map Prod.fst
  · have hi := List.idxOf_lt_length_iff.2 hx
    have hi' : ((mput l k v).map Prod.fst).idxOf x < (mput l k v).length := by simpa using hi
    unfold mget
    rw [mput_vals l k v d _ hi']
    have hk := mput_keys l k v
    by_cases e : x = k
    · subst e
      rw [if_pos rfl]
      have : ((mput l x v).map Prod.fst).idxOf x = (l.map Prod.fst).idxOf x := by
        rw [hk]
        split
        · rfl
        · rename_i hn
          rw [List.idxOf_append, if_neg hn, List.idxOf_eq_length hn]
          simp
      rw [this, Nat.beq_refl, cond_true]
    · rw [if_neg e]
      have hm : x ∈ l.map Prod.fst := ((mput_mem l k v x).1 hx).resolve_right e
      have e2 : ((mput l k v).map Prod.fst).idxOf x = (l.map Prod.fst).idxOf x := by
        rw [hk]
        split
        · rfl
        · rw [List.idxOf_append, if_pos hm]
      rw [e2]
      have hne : (l.map Prod.fst).idxOf x ≠ (l.map Prod.fst).idxOf k := fun q => by
        have h1 := List.getElem_idxOf (List.idxOf_lt_length_iff.2 hm)
        by_cases hk2 : k ∈ l.map Prod.fst
        · have h2 := List.getElem_idxOf (List.idxOf_lt_length_iff.2 hk2)
          apply e
          rw [← h1, ← h2]
          simp only [q]
        · have h3 := List.idxOf_lt_length_iff.2 hm
          rw [q, List.idxOf_eq_length hk2] at h3
          omega
      have : Nat.beq ((l.map Prod.fst).idxOf x) ((l.map Prod.fst).idxOf k) = false := by
        rw [← Bool.not_eq_true]
        exact fun q => hne (Nat.eq_of_beq_eq_true q)
      rw [this, cond_false]
  · have hx2 : x ∉ l.map Prod.fst := fun h => hx ((mput_mem l k v x).2 (.inl h))
    have hne : x ≠ k := fun h => hx ((mput_mem l k v x).2 (.inr h))
    rw [if_neg hne, mget_not d _ x hx, mget_not d l x hx2]
/-- The values, by the keys. -/
theorem mget_keys {β : Type} (d : β) (l : List (ByteArray × β)) (h : (l.map Prod.fst).Nodup) : (l.map Prod.fst).map (mget d l) = l.map Prod.snd := by
  apply List.ext_getElem
  · simp
  · intro i h1 h2
    have hi : i < (l.map Prod.fst).length := by simpa using h2
    simp only [List.getElem_map]
    have e : (l.map Prod.fst).idxOf (l[i]'(by simpa using h2)).1 = i := by
      have := List.Nodup.idxOf_getElem h i hi
      simpa using this
    unfold mget
    rw [e]
    have hi2 : i < l.length := by simpa using h2
    simp [List.getD, hi2]
theorem map_data_mk (l : List ByteArray) : (l.map fun s => s.data.toList).map (fun z => (⟨z.toArray⟩ : ByteArray)) = l := by
  rw [List.map_map]
  conv => rhs; rw [← List.map_id l]
  rfl
theorem sortB_perm (l : List ByteArray) : (sortB l).Perm l := by
  unfold sortB
  have h := (List.mergeSort_perm (l.map fun s => s.data.toList) leB).map (fun z => (⟨z.toArray⟩ : ByteArray))
  rw [map_data_mk] at h
  exact h
theorem sum_perm {a b : List Int} (h : a.Perm b) : a.sum = b.sum := by
  induction h with
  | nil => rfl
  | cons x _ ih => simp only [List.sum_cons, ih]
  | swap x y l => simp only [List.sum_cons]; omega
  | trans _ _ i1 i2 => rw [i1, i2]
theorem sum_erase {α : Type} (g : α → Int) (d : α) (l : List α) (i : Nat) (hi : i < l.length) : g (l.getD i d) + ((l.eraseIdx i).map g).sum = (l.map g).sum := by
  induction l generalizing i with
  | nil => simp at hi
  | cons x l ih =>
    cases i with
    | zero => simp
    | succ i =>
      have := ih i (by simpa using hi)
      simp only [List.eraseIdx_cons_succ, List.map_cons, List.sum_cons, List.getD_cons_succ]
      omega
theorem sum_nn {l : List Int} (h : ∀ x ∈ l, 0 ≤ x) : 0 ≤ l.sum := by
  induction l with
  | nil => simp
  | cons x l ih =>
    have h1 := ih fun y hy => h y (List.mem_cons_of_mem _ hy)
    have h2 := h x (List.mem_cons_self ..)
    simp only [List.sum_cons]
    omega
theorem sum_le {l : List Int} (B : Int) (h : ∀ x ∈ l, x ≤ B) : l.sum ≤ l.length * B := by
  induction l with
  | nil => simp
  | cons x l ih =>
    have h1 := ih fun y hy => h y (List.mem_cons_of_mem _ hy)
    have h2 := h x (List.mem_cons_self ..)
    have e : ((l.length + 1 : Nat) : Int) * B = l.length * B + B := by rw [Int.natCast_add, Int.add_mul]; simp
    simp only [List.sum_cons, List.length_cons]
    rw [e]
    omega
theorem range_getD (l : List Int) : (List.range l.length).map (fun j => l.getD j 0) = l := by
  apply List.ext_getElem
  · simp
  · intro i h1 h2
    simp [List.getD, h2]
/-- A range over a map: all orders agree. -/
theorem Ev.alt {ρ : Type} [DecidableEq ρ] {n : Nat} {A : Nat → Nat → Option ρ} {B : Nat → Option ρ} {v : ρ} (h0 : n = 0 → Ev B v) (h1 : ∀ j, j < n → Ev (fun k => A k j) v) : Ev (fun k => altO n (A k) (B k)) v := by
  have hK : ∀ m, m ≤ n → ∃ K, ∀ k, K ≤ k → ∀ j, j < m → A k j = some v := by
    intro m
    induction m with
    | zero => intro _; exact ⟨0, fun _ _ j hj => absurd hj (by omega)⟩
    | succ m ih =>
      intro hm
      obtain ⟨K, h⟩ := ih (by omega)
      obtain ⟨K2, h2⟩ := h1 m (by omega)
      refine ⟨max K K2, fun k hk j hj => ?_⟩
      by_cases e : j = m
      · subst e; exact h2 k (by omega)
      · exact h k (by omega) j (by omega)
  obtain ⟨K, h⟩ := hK n (Nat.le_refl _)
  by_cases e : n = 0
  · obtain ⟨K0, h3⟩ := h0 e
    exact ⟨max K K0, fun k hk => altO_of (fun _ => h3 k (by omega)) (h k (by omega))⟩
  · exact ⟨K, fun k hk => altO_of (fun q => absurd q e) (h k hk)⟩
end Go.EV.Pure
namespace Go.EV.Pure
open Go Go.EV Go.RowKit
set_option linter.unusedSimpArgs false
/-! Strings as lists of bytes. -/
end Go.EV.Pure
namespace Go.EV.Pure
open Go Go.EV Go.RowKit
theorem Below_j (x : Int) : Ev (fun k => pilemake_Below.j6 k x) x := Ev.from 1 fun k => rfl
theorem Below_spec (x n : Int) (hn : n ≤ 9223372036854775807) : ∃ r, Ev (fun k => pilemake_Below.f k x n) r ∧ 0 ≤ r ∧ (1 ≤ n → r < n) ∧ (n < 1 → r = 0) := by
  unfold pilemake_Below.f
  by_cases h : n < 1
  · simp only [if_pos h]
    exact ⟨0, Ev.now _, by omega, by omega, fun _ => rfl⟩
  · simp only [if_neg h, if_neg (show ¬ n = 0 by omega)]
    have hm := Int.natAbs_tmod x n
    have hm2 := Nat.mod_lt x.natAbs (show n.natAbs > 0 by omega)
    have h1 : x.tmod n < n := by omega
    have h2 : -n < x.tmod n := by omega
    by_cases h3 : x.tmod n < 0
    · simp only [if_pos h3]
      refine ⟨_, Below_j _, ?_, ?_, ?_⟩ <;> rw [wrap_id (by omega) (by omega)] <;> omega
    · simp only [if_neg h3]
      exact ⟨_, Below_j _, by omega, by omega, by omega⟩
theorem Next_spec (l : List Int) (s n : Int) (h0 : 0 ≤ s) (h1 : s ≤ 4611686018427387904) (hn : n ≤ 9223372036854775807) (hl : l.length ≤ 140737488351232) :
    ∃ r, Ev (fun k => pilemake_Stream_Next.f k l s n) (r, l, s + 1) ∧ 0 ≤ r ∧ (1 ≤ n → r < n) := by
  unfold pilemake_Stream_Next.f
  have hs : wrap64 (s + 1) = s + 1 := wrap_id (by omega) (by omega)
  have hs2 : wrap64 (s + 1 - 1) = s := by rw [wrap_id (by omega) (by omega)]; omega
  simp only [hs, hs2]
  by_cases h : (l.length : Int) = 0
  · simp only [if_pos h]
    obtain ⟨r, hr, r0, r1, _⟩ := Below_spec (wrap64 ((s + 1) * 7919)) n hn
    exact ⟨r, Ev.bind hr (Ev.now _), r0, r1⟩
  · have e : Int.tmod s (l.length : Int) = s % (l.length : Int) := Int.tmod_eq_emod_of_nonneg h0
    have m0 : 0 ≤ s % (l.length : Int) := Int.emod_nonneg _ h
    have m1 : s % (l.length : Int) < (l.length : Int) := Int.emod_lt_of_pos _ (by omega)
    simp only [if_neg h, e, if_pos m0, if_pos m1]
    obtain ⟨a, ha, _⟩ := Below_spec (rd l (s % (l.length : Int))) 1073741824 (by omega)
    obtain ⟨r, hr, r0, r1, _⟩ := Below_spec (wrap64 (a + wrap64 (wrap64 (Int.tdiv s (l.length : Int)) * wrap64 (7919 + s % (l.length : Int))))) n hn
    exact ⟨r, Ev.bind ha (Ev.bind hr (Ev.now _)), r0, r1⟩
theorem Pick_spec (l : List Int) (s : Int) (m : List Int) (h0 : 0 ≤ s) (h1 : s ≤ 4611686018427387904) (hl : l.length ≤ 140737488351232) (hm : 1 ≤ m.length) (hm2 : m.length ≤ 1000) :
    ∃ r, Ev (fun k => pilemake_Stream_Pick.f k l s m) (r, l, s + 1) ∧ r ∈ m := by
  obtain ⟨r, hr, r0, r1⟩ := Next_spec l s (m.length : Int) h0 h1 (by omega) hl
  have r2 := r1 (by omega)
  exact ⟨rd m r, Ev.bind hr (Ev.pos r0 (Ev.pos r2 (Ev.now _))), rd_mem m r r0 r2⟩
theorem Range_spec (l : List Int) (s a b : Int) (h0 : 0 ≤ s) (h1 : s ≤ 4611686018427387904) (ha : -1099511627776 ≤ a) (hb : b ≤ 1099511627776) (hab : a ≤ b) (hl : l.length ≤ 140737488351232) :
    ∃ r, Ev (fun k => pilemake_Stream_Range.f k l s a b) (r, l, s + 1) ∧ a ≤ r ∧ r ≤ b := by
  obtain ⟨r, hr, r0, r1⟩ := Next_spec l s (b - a + 1) h0 h1 (by omega) hl
  have r2 := r1 (by omega)
  refine ⟨a + r, ?_, by omega, by omega⟩
  unfold pilemake_Stream_Range.f
  rw [wrap_id (e := b - a) (by omega) (by omega), wrap_id (e := b - a + 1) (by omega) (by omega)]
  refine Ev.neg (by omega) (Ev.bind hr ?_)
  simp only [wrap_id (e := a + r) (by omega) (by omega)]
  exact Ev.now _
theorem Flip_spec (l : List Int) (s n : Int) (h0 : 0 ≤ s) (h1 : s ≤ 4611686018427387904) (hn : n ≤ 9223372036854775807) (hl : l.length ≤ 140737488351232) :
    ∃ b, Ev (fun k => pilemake_Stream_Flip.f k l s n) (b, l, s + 1) := by
  obtain ⟨r, hr, _⟩ := Next_spec l s n h0 h1 hn hl
  exact ⟨decide (r = 0), Ev.bind hr (Ev.now _)⟩
end Go.EV.Pure
namespace Go.EV.Pure
open Go Go.EV Go.RowKit
set_option linter.unusedSimpArgs false
set_option maxRecDepth 100000
/-! Strings that the stream draws: of ASCII, and short. -/
theorem Some_spec (l : List Int) (s : Int) (m : List ByteArray) (h0 : 0 ≤ s) (h1 : s ≤ 4611686018427387904) (hl : l.length ≤ 140737488351232) (hm : 1 ≤ m.length) (hm2 : m.length ≤ 1000) :
    ∃ r, Ev (fun k => pilemake_Stream_Some.f k l s m) (r, l, s + 1) ∧ r ∈ m := by
  obtain ⟨r, hr, r0, r1⟩ := Next_spec l s (m.length : Int) h0 h1 (by omega) hl
  have r2 := r1 (by omega)
  exact ⟨rdE eS m r, Ev.bind hr (Ev.pos r0 (Ev.pos r2 (Ev.now _))), rdE_mem eS m r r0 r2⟩
end Go.EV.Pure
namespace Go.EV.Pure
open Go Go.EV Go.RowKit
/-- What is wrong with times in a window: from a time on, behind one. -/
def scanV (w0 w1 : Int) : Option Int → List Int → Int
  | _, [] => 0
  | p, x :: l => if w0 ≤ x ∧ x < w1 then (if (∃ y, p = some y ∧ x < y) then 7 else scanV w0 w1 (some x) l) else 1
def prevV (l : List Int) (i : Nat) : Option Int := if i = 0 then none else l[i - 1]?
/-- What is wrong with times in a window. -/
def timesV (l : List Int) (w0 w1 : Int) : Int :=
  if 0 ≤ w0 ∧ w0 < w1 ∧ w1 ≤ 345686400000 then (if l.length > 2000 then 2 else scanV w0 w1 none l) else 1
theorem scan_ok (w0 w1 : Int) (l : List Int) : ∀ p, scanV w0 w1 p l = 0 → (∀ x ∈ l, w0 ≤ x ∧ x < w1) ∧ l.Pairwise (· ≤ ·) ∧ ∀ y, p = some y → ∀ x ∈ l, y ≤ x := by
  induction l with
  | nil => intro p _; simp
  | cons x l ih =>
    intro p h
    simp only [scanV] at h
    by_cases c : w0 ≤ x ∧ x < w1
    · rw [if_pos c] at h
      by_cases d : ∃ y, p = some y ∧ x < y
      · rw [if_pos d] at h; omega
      · rw [if_neg d] at h
        obtain ⟨h1, h2, h3⟩ := ih _ h
        refine ⟨?_, ?_, ?_⟩
        · intro z hz
          rcases List.mem_cons.1 hz with rfl | hz
          · exact c
          · exact h1 z hz
        · exact List.pairwise_cons.2 ⟨fun z hz => h3 x rfl z hz, h2⟩
        · intro y hy z hz
          have hyx : y ≤ x := by
            by_cases e : x < y
            · exact absurd ⟨y, hy, e⟩ d
            · omega
          rcases List.mem_cons.1 hz with rfl | hz
          · exact hyx
          · have := h3 x rfl z hz; omega
    · rw [if_neg c] at h; omega
theorem times_ok {l : List Int} {w0 w1 : Int} (h : timesV l w0 w1 = 0) : (0 ≤ w0 ∧ w0 < w1 ∧ w1 ≤ 345686400000) ∧ l.length ≤ 2000 ∧ (∀ x ∈ l, w0 ≤ x ∧ x < w1) ∧ l.Pairwise (· ≤ ·) := by
  unfold timesV at h
  by_cases c : 0 ≤ w0 ∧ w0 < w1 ∧ w1 ≤ 345686400000
  · rw [if_pos c] at h
    by_cases d : l.length > 2000
    · rw [if_pos d] at h; omega
    · rw [if_neg d] at h
      obtain ⟨h1, h2, _⟩ := scan_ok _ _ _ _ h
      exact ⟨c, by omega, h1, h2⟩
  · rw [if_neg c] at h; omega
theorem Has_eq (a b x : Int) : kit_Has.f a b x = some (decide (a ≤ x ∧ x < b)) := by
  unfold kit_Has.f
  split <;> simp [*]
theorem inside_eq (a b x : Int) : pileref1_inside.f a b x = some (decide (a ≤ x ∧ x < b)) := by
  unfold pileref1_inside.f
  split <;> simp [*]
theorem IsTime_eq (a b : Int) : kit_IsTime.f a b = some (decide (0 ≤ a ∧ a < b ∧ b ≤ 345686400000)) := by
  unfold kit_IsTime.f
  split
  · split <;> simp [*] <;> omega
  · simp; omega
theorem timeFault_eq (a b : Int) : pileref1_timeFault.f a b = some (if 0 ≤ a ∧ a < b ∧ b ≤ 345686400000 then 0 else 1) := by
  unfold pileref1_timeFault.f
  repeat' split
  all_goals first | rfl | omega
theorem CheckTimes_loop (l : List Int) (hl : l.length ≤ 140737488351232) (w0 w1 : Int) (d : Nat) : ∀ i : Nat, i + d = l.length →
    Ev (fun k => rate_CheckTimes.l0 k l w0 w1 (i : Int)) (scanV w0 w1 (prevV l i) (l.drop i)) := by
  induction d with
  | zero =>
    intro i hi
    refine Ev.step (f := fun _ => some _) (fun k => ?_) (Ev.now _)
    simp only [rate_CheckTimes.l0]
    rw [if_neg (by omega), List.drop_of_length_le (by omega)]
    rfl
  | succ d ih =>
    intro i hi
    have hlt : i < l.length := by omega
    have hd : l.drop i = l[i] :: l.drop (i + 1) := List.drop_eq_getElem_cons hlt
    have hr := rd_get l i hlt
    have hw : wrap64 ((i : Int) + 1) = ((i + 1 : Nat) : Int) := by rw [wrap_id (by omega) (by omega)]; omega
    have hp : prevV l (i + 1) = some l[i] := by simp [prevV, List.getElem?_eq_getElem hlt]
    have ih' := ih (i + 1) (by omega)
    rw [hp] at ih'
    rw [hd]
    simp only [scanV]
    by_cases c : w0 ≤ l[i] ∧ l[i] < w1
    · by_cases z : i = 0
      · subst z
        rw [if_pos c, if_neg (by rintro ⟨y, hy, _⟩; simp [prevV] at hy)]
        refine Ev.step (fun k => ?_) ih'
        simp only [rate_CheckTimes.l0]
        rw [if_pos (by omega), if_pos (by omega), if_pos (by omega), hr, Has_eq]
        simp only [Option.bind_some, decide_eq_true_eq]
        rw [if_pos c, if_neg (by omega), hw]
      · have hlt2 : i - 1 < l.length := by omega
        have hr2 := rd_get l (i - 1) hlt2
        have hw2 : wrap64 ((i : Int) - 1) = ((i - 1 : Nat) : Int) := by rw [wrap_id (by omega) (by omega)]; omega
        have hp2 : prevV l i = some l[i - 1] := by simp [prevV, z, List.getElem?_eq_getElem hlt2]
        rw [if_pos c, hp2]
        by_cases o : l[i] < l[i - 1]
        · rw [if_pos ⟨_, rfl, o⟩]
          refine Ev.step (f := fun _ => some 7) (fun k => ?_) (Ev.now _)
          simp only [rate_CheckTimes.l0]
          rw [if_pos (by omega), if_pos (by omega), if_pos (by omega), hr, Has_eq]
          simp only [Option.bind_some, decide_eq_true_eq]
          rw [if_pos c, if_pos (by omega), hw2, if_pos (by omega), if_pos (by omega), hr2, if_pos o]
        · rw [if_neg (by rintro ⟨y, hy, h⟩; cases hy; exact o h)]
          refine Ev.step (fun k => ?_) ih'
          simp only [rate_CheckTimes.l0]
          rw [if_pos (by omega), if_pos (by omega), if_pos (by omega), hr, Has_eq]
          simp only [Option.bind_some, decide_eq_true_eq]
          rw [if_pos c, if_pos (by omega), hw2, if_pos (by omega), if_pos (by omega), hr2, if_neg o, hw]
    · rw [if_neg c]
      refine Ev.step (f := fun _ => some 1) (fun k => ?_) (Ev.now _)
      simp only [rate_CheckTimes.l0]
      rw [if_pos (by omega), if_pos (by omega), if_pos (by omega), hr, Has_eq]
      simp only [Option.bind_some, decide_eq_true_eq]
      rw [if_neg c]
theorem CheckTimes_ev (l : List Int) (hl : l.length ≤ 140737488351232) (w0 w1 : Int) : Ev (fun k => rate_CheckTimes.f k l w0 w1) (timesV l w0 w1) := by
  have h := CheckTimes_loop l hl w0 w1 l.length 0 (by omega)
  simp only [rate_CheckTimes.f, IsTime_eq, Option.bind_some, decide_eq_true_eq]
  unfold timesV
  by_cases c : 0 ≤ w0 ∧ w0 < w1 ∧ w1 ≤ 345686400000
  · simp only [if_pos c]
    by_cases d : l.length > 2000
    · have d' : (l.length : Int) > 2000 := by omega
      simp only [if_pos d, if_pos d']
      exact Ev.now _
    · have d' : ¬ (l.length : Int) > 2000 := by omega
      simp only [if_neg d, if_neg d']
      simpa [prevV] using h
  · simp only [if_neg c]
    exact Ev.now _
theorem TimesFault_loop (l : List Int) (hl : l.length ≤ 140737488351232) (w0 w1 : Int) (d : Nat) : ∀ i : Nat, i + d = l.length →
    Ev (fun k => pileref1_TimesFault.l0 k l w0 w1 (i : Int)) (scanV w0 w1 (prevV l i) (l.drop i)) := by
  induction d with
  | zero =>
    intro i hi
    refine Ev.step (f := fun _ => some _) (fun k => ?_) (Ev.now _)
    simp only [pileref1_TimesFault.l0]
    rw [if_neg (by omega), List.drop_of_length_le (by omega)]
    rfl
  | succ d ih =>
    intro i hi
    have hlt : i < l.length := by omega
    have hd : l.drop i = l[i] :: l.drop (i + 1) := List.drop_eq_getElem_cons hlt
    have hr := rd_get l i hlt
    have hw : wrap64 ((i : Int) + 1) = ((i + 1 : Nat) : Int) := by rw [wrap_id (by omega) (by omega)]; omega
    have hp : prevV l (i + 1) = some l[i] := by simp [prevV, List.getElem?_eq_getElem hlt]
    have ih' := ih (i + 1) (by omega)
    rw [hp] at ih'
    rw [hd]
    simp only [scanV]
    by_cases c : w0 ≤ l[i] ∧ l[i] < w1
    · by_cases z : i = 0
      · subst z
        rw [if_pos c, if_neg (by rintro ⟨y, hy, _⟩; simp [prevV] at hy)]
        refine Ev.step (fun k => ?_) ih'
        simp only [pileref1_TimesFault.l0]
        rw [if_pos (by omega), if_pos (by omega), if_pos (by omega), hr, inside_eq]
        simp only [Option.bind_some, decide_eq_true_eq]
        rw [if_pos c, if_neg (by omega), hw]
      · have hlt2 : i - 1 < l.length := by omega
        have hr2 := rd_get l (i - 1) hlt2
        have hw2 : wrap64 ((i : Int) - 1) = ((i - 1 : Nat) : Int) := by rw [wrap_id (by omega) (by omega)]; omega
        have hp2 : prevV l i = some l[i - 1] := by simp [prevV, z, List.getElem?_eq_getElem hlt2]
        rw [if_pos c, hp2]
        by_cases o : l[i] < l[i - 1]
        · rw [if_pos ⟨_, rfl, o⟩]
          refine Ev.step (f := fun _ => some 7) (fun k => ?_) (Ev.now _)
          simp only [pileref1_TimesFault.l0]
          rw [if_pos (by omega), if_pos (by omega), if_pos (by omega), hr, inside_eq]
          simp only [Option.bind_some, decide_eq_true_eq]
          rw [if_pos c, if_pos (by omega), hw2, if_pos (by omega), if_pos (by omega), hr2, if_pos o]
        · rw [if_neg (by rintro ⟨y, hy, h⟩; cases hy; exact o h)]
          refine Ev.step (fun k => ?_) ih'
          simp only [pileref1_TimesFault.l0]
          rw [if_pos (by omega), if_pos (by omega), if_pos (by omega), hr, inside_eq]
          simp only [Option.bind_some, decide_eq_true_eq]
          rw [if_pos c, if_pos (by omega), hw2, if_pos (by omega), if_pos (by omega), hr2, if_neg o, hw]
    · rw [if_neg c]
      refine Ev.step (f := fun _ => some 1) (fun k => ?_) (Ev.now _)
      simp only [pileref1_TimesFault.l0]
      rw [if_pos (by omega), if_pos (by omega), if_pos (by omega), hr, inside_eq]
      simp only [Option.bind_some, decide_eq_true_eq]
      rw [if_neg c]
theorem TimesFault_ev (l : List Int) (hl : l.length ≤ 140737488351232) (w0 w1 : Int) : Ev (fun k => pileref1_TimesFault.f k l w0 w1) (timesV l w0 w1) := by
  have h := TimesFault_loop l hl w0 w1 l.length 0 (by omega)
  simp only [pileref1_TimesFault.f, timeFault_eq, Option.bind_some]
  unfold timesV
  by_cases c : 0 ≤ w0 ∧ w0 < w1 ∧ w1 ≤ 345686400000
  · simp only [if_pos c, if_true]
    by_cases d : l.length > 2000
    · have d' : (l.length : Int) > 2000 := by omega
      simp only [if_pos d, if_pos d']
      exact Ev.now _
    · have d' : ¬ (l.length : Int) > 2000 := by omega
      simp only [if_neg d, if_neg d']
      simpa [prevV] using h
  · simp only [if_neg c, show ¬ ((1 : Int) = 0) by omega, if_false]
    exact Ev.now _
end Go.EV.Pure
namespace Go.EV.Pure
open Go Go.EV Go.RowKit
/-! The lists of times that the stream makes. -/
def endsOK (w0 b : Int) : Prop := b = 3600000 ∨ b = 5000000 ∨ b = 9000000 ∨ b = 30000000 ∨ b = w0 ∨ b = 345686400001
theorem TimesOf_j (k : Nat) (w0 b : Int) (L l : List Int) (s : Int) : pilemake_Stream_TimesOf.j14 (k + 1) w0 b L l s = some (L, w0, b, l, s) := rfl
theorem TimesOf_j_ev (w0 b : Int) (L l : List Int) (s : Int) : Ev (fun k => pilemake_Stream_TimesOf.j14 k w0 b L l s) (L, w0, b, l, s) := Ev.from 1 fun k => TimesOf_j k w0 b L l s
theorem TimesOf_end (l : List Int) (hl : l.length ≤ 140737488351232) (x w0 b : Int) (hb : endsOK w0 b) (L : List Int) (hL : L.length ≤ 12) (s : Int) (h0 : 0 ≤ s) (h1 : s ≤ 4611686018427380000) :
    ∃ (L' : List Int) (b' s' : Int), (∀ f : Nat → Option _, (∀ k, f (k + 1) = ((pilemake_Stream_Flip.f k l s 15).bind fun r10 => (if r10.1 = true then ((pilemake_Stream_Pick.f k r10.2.1 r10.2.2 [b, w0, 345686400001]).bind fun r11 => ((pilemake_Stream_Pick.f k r11.2.1 r11.2.2 [0, r11.1, x]).bind fun r12 => (if L.length + [r12.1].length ≤ 549755813888 then pilemake_Stream_TimesOf.j14 k w0 r11.1 (L ++ [r12.1]) r12.2.1 r12.2.2 else Option.none))) else pilemake_Stream_TimesOf.j14 k w0 b L r10.2.1 r10.2.2))) → Ev f (L', w0, b', l, s')) ∧
      L'.length ≤ 13 ∧ endsOK w0 b' ∧ s ≤ s' ∧ s' ≤ s + 3 := by
  obtain ⟨f, e1⟩ := Flip_spec l s 15 (by omega) (by omega) (by omega) hl
  cases f with
  | true =>
    obtain ⟨r2, e2, m2⟩ := Pick_spec l (s + 1) [b, w0, 345686400001] (by omega) (by omega) hl (by simp) (by simp)
    obtain ⟨r3, e3, _⟩ := Pick_spec l (s + 1 + 1) [0, r2, x] (by omega) (by omega) hl (by simp) (by simp)
    refine ⟨L ++ [r3], r2, s + 1 + 1 + 1, fun f hf => Ev.step hf (Ev.bind e1 (Ev.pos rfl (Ev.bind e2 (Ev.bind e3 (Ev.pos (by simp; omega) (TimesOf_j_ev _ _ _ _ _)))))), by simp; omega, ?_, by omega, by omega⟩
    simp only [List.mem_cons, List.not_mem_nil, or_false] at m2
    unfold endsOK at hb ⊢
    omega
  | false =>
    exact ⟨L, b, s + 1, fun f hf => Ev.step hf (Ev.bind e1 (Ev.neg Bool.false_ne_true (TimesOf_j_ev _ _ _ _ _))), by omega, hb, by omega, by omega⟩
theorem TimesOf_l1 (l : List Int) (hl : l.length ≤ 140737488351232) (x w0 b : Int) (hb : endsOK w0 b) (s : Int) (h0 : 0 ≤ s) (h1 : s ≤ 4611686018427380000) (n : Nat) : ∀ L : List Int, L.length = n → n ≤ 12 →
    ∃ (L' : List Int) (b' s' : Int), Ev (fun k => pilemake_Stream_TimesOf.l1 k x w0 b l s L) (L', w0, b', l, s') ∧ L'.length ≤ 13 ∧ endsOK w0 b' ∧ s ≤ s' ∧ s' ≤ s + 3 := by
  induction n with
  | zero =>
    intro L hL _
    obtain ⟨L', b', s', h, q⟩ := TimesOf_end l hl x w0 b hb L (by omega) s h0 h1
    refine ⟨L', b', s', h _ (fun k => ?_), q⟩
    simp only [pilemake_Stream_TimesOf.l1]
    rw [if_neg (by omega)]
  | succ n ih =>
    intro L hL hn
    have hw : wrap64 ((L.length : Int) - 1) = (n : Int) := by rw [wrap_id (by omega) (by omega)]; omega
    by_cases c : rd L (n : Int) ≥ b
    · obtain ⟨L', b', s', h, q⟩ := ih (L.take n) (by simp; omega) (by omega)
      refine ⟨L', b', s', Ev.step (fun k => ?_) h, q⟩
      simp only [pilemake_Stream_TimesOf.l1, hw]
      rw [if_pos (by omega), if_pos (by omega), if_pos (by omega), if_pos c, if_pos (by omega), if_pos (by omega), Int.toNat_natCast]
    · obtain ⟨L', b', s', h, q⟩ := TimesOf_end l hl x w0 b hb L (by omega) s h0 h1
      refine ⟨L', b', s', h _ (fun k => ?_), q⟩
      simp only [pilemake_Stream_TimesOf.l1, hw]
      rw [if_pos (by omega), if_pos (by omega), if_pos (by omega), if_neg c]
theorem TimesOf_l0 (l : List Int) (hl : l.length ≤ 140737488351232) (m w0 b : Int) (hm : 0 ≤ m ∧ m ≤ 12) (hb : endsOK w0 b) (d : Nat) : ∀ (i : Int) (L : List Int) (x s : Int), 0 ≤ i → i + d = m → L.length ≤ i → 0 ≤ s → s + d ≤ 4611686018427380000 →
    ∃ (L' : List Int) (b' s' : Int), Ev (fun k => pilemake_Stream_TimesOf.l0 k x m i w0 b L l s) (L', w0, b', l, s') ∧ L'.length ≤ 13 ∧ endsOK w0 b' ∧ s ≤ s' ∧ s' ≤ s + d + 3 := by
  induction d with
  | zero =>
    intro i L x s hi hd hL h0 h1
    obtain ⟨L', b', s', h, q1, q2, q3, q4⟩ := TimesOf_l1 l hl x w0 b hb s h0 (by omega) L.length L rfl (by omega)
    refine ⟨L', b', s', Ev.step (fun k => ?_) h, q1, q2, by omega, by omega⟩
    simp only [pilemake_Stream_TimesOf.l0]
    rw [if_neg (by omega)]
  | succ d ih =>
    intro i L x s hi hd hL h0 h1
    obtain ⟨r, e, _⟩ := Pick_spec l s [0, 1, 1000, 60000, 300000, 1800000] (by omega) (by omega) hl (by simp) (by simp)
    obtain ⟨L', b', s', h, q1, q2, q3, q4⟩ := ih (i + 1) (L ++ [wrap64 (x + r)]) (wrap64 (x + r)) (s + 1) (by omega) (by omega) (by simp; omega) (by omega) (by omega)
    have hw : wrap64 (i + 1) = i + 1 := wrap_id (by omega) (by omega)
    refine ⟨L', b', s', Ev.succ ?_, q1, q2, by omega, by omega⟩
    simp only [pilemake_Stream_TimesOf.l0, hw]
    exact Ev.pos (by omega) (Ev.bind e (Ev.pos (show L.length + 1 ≤ 549755813888 by omega) h))
theorem TimesOf_spec (l : List Int) (s : Int) (h0 : 0 ≤ s) (h1 : s ≤ 4611686018427370000) (hl : l.length ≤ 140737488351232) :
    ∃ (L : List Int) (a b s' : Int), Ev (fun k => pilemake_Stream_TimesOf.f k l s) (L, a, b, l, s') ∧ L.length ≤ 13 ∧ (a = 0 ∨ a = 1000) ∧ endsOK a b ∧ s ≤ s' ∧ s' ≤ s + 20 := by
  obtain ⟨r1, e1, m1⟩ := Pick_spec l s [0, 1000] (by omega) (by omega) hl (by simp) (by simp)
  obtain ⟨r2, e2, m2⟩ := Pick_spec l (s + 1) [3600000, 5000000, 9000000, 30000000] (by omega) (by omega) hl (by simp) (by simp)
  obtain ⟨r3, e3, r3a, r3b⟩ := Range_spec l (s + 1 + 1) 0 12 (by omega) (by omega) (by omega) (by omega) (by omega) hl
  simp only [List.mem_cons, List.not_mem_nil, or_false] at m1 m2
  obtain ⟨L', b', s', h, q1, q2, q3, q4⟩ := TimesOf_l0 l hl r3 r1 r2 ⟨r3a, r3b⟩ (by unfold endsOK; omega) r3.toNat 0 [] r1 (s + 1 + 1 + 1) (by omega) (by omega) (by simp) (by omega) (by omega)
  exact ⟨L', r1, b', s', Ev.bind e1 (Ev.bind e2 (Ev.bind e3 h)), q1, m1, q2, by omega, by omega⟩
/-- Times that are right. -/
theorem RightTimes_spec (l : List Int) (hl : l.length ≤ 140737488351232) (d : Nat) : ∀ (i s : Int), i + d = 6 → 0 ≤ s → s + 20 * d ≤ 4611686018427370000 →
    ∃ (L : List Int) (a b s' : Int), Ev (fun k => pilemake_Stream_RightTimes.l0 k i l s) (L, a, b, l, s') ∧ L.length ≤ 13 ∧ timesV L a b = 0 ∧ (a = 0 ∨ a = 1000) ∧ b ≤ 30000000 ∧ s ≤ s' ∧ s' ≤ s + 20 * d := by
  induction d with
  | zero =>
    intro i s hi h0 h1
    refine ⟨[], 0, 3600000, s, Ev.step (f := fun _ => some _) (fun k => ?_) (Ev.now _), by simp, by decide, .inl rfl, by omega, by omega, by omega⟩
    simp only [pilemake_Stream_RightTimes.l0]
    rw [if_neg (by omega)]
  | succ d ih =>
    intro i s hi h0 h1
    obtain ⟨L, a, b, s1, e1, q1, q2, q3, q4, q5⟩ := TimesOf_spec l s h0 (by omega) hl
    have e2 := TimesFault_ev L (by omega) a b
    by_cases c : timesV L a b = 0
    · refine ⟨L, a, b, s1, Ev.succ ?_, q1, c, q2, ?_, by omega, by omega⟩
      · simp only [pilemake_Stream_RightTimes.l0]
        exact Ev.pos (by omega) (Ev.bind e1 (Ev.bind e2 (Ev.pos c (Ev.now _))))
      · have := (times_ok c).1
        unfold endsOK at q3
        omega
    · obtain ⟨L2, a2, b2, s2, e3, w1, w2, w3, w4, w5, w6⟩ := ih (i + 1) s1 (by omega) (by omega) (by omega)
      refine ⟨L2, a2, b2, s2, Ev.succ ?_, w1, w2, w3, w4, by omega, by omega⟩
      simp only [pilemake_Stream_RightTimes.l0, wrap_id (e := i + 1) (by omega) (by omega)]
      exact Ev.pos (by omega) (Ev.bind e1 (Ev.bind e2 (Ev.neg c e3)))
end Go.EV.Pure
namespace Go.EV.Pure
open Go Go.EV Go.RowKit
/-! Hours, counts and the best stretch of right times. -/
structure VT (l : List Int) (w0 w1 : Int) : Prop where
  w : 0 ≤ w0 ∧ w0 < w1 ∧ w1 ≤ 345686400000
  n : l.length ≤ 2000
  b : ∀ x ∈ l, w0 ≤ x ∧ x < w1
  s : l.Pairwise (· ≤ ·)
  t : timesV l w0 w1 = 0
theorem VT.of {l : List Int} {w0 w1 : Int} (h : timesV l w0 w1 = 0) : VT l w0 w1 := let ⟨a, b, c, d⟩ := times_ok h; ⟨a, b, c, d, h⟩
theorem VT.check {l : List Int} {w0 w1 : Int} (h : VT l w0 w1) : Ev (fun k => rate_CheckTimes.f k l w0 w1) 0 := by
  have := CheckTimes_ev l (by have := h.n; omega) w0 w1
  rwa [h.t] at this
theorem Outside_eq (a lo hi : Int) : kit_Outside.f a lo hi = some (decide (a < lo ∨ hi < a)) := by
  unfold kit_Outside.f
  split <;> simp [*]
end Go.EV.Pure
namespace Go.EV.Pure
open Go Go.EV Go.RowKit
set_option linter.unusedSimpArgs false
def spanV (a lo hi : Int) : Int := if lo ≤ a ∧ a ≤ hi then 0 else 1
theorem SpanFault_eq (a lo hi : Int) : pileref1_SpanFault.f a lo hi = some (spanV a lo hi) := by
  unfold pileref1_SpanFault.f pileref1_in.f spanV
  by_cases c : lo ≤ a
  · by_cases c2 : a ≤ hi <;> simp [c, c2]
  · simp [c]
theorem MomentFault_eq (a : Int) : pileref1_MomentFault.f a = some (spanV a 0 345686399999) := by
  unfold pileref1_MomentFault.f
  rw [SpanFault_eq]
  rfl
theorem IsMoment_eq (a : Int) : kit_IsMoment.f a = some (decide (0 ≤ a ∧ a ≤ 345686399999)) := by
  unfold kit_IsMoment.f
  rw [Outside_eq]
  simp only [Option.bind_some, Option.some.injEq]
  by_cases c : 0 ≤ a ∧ a ≤ 345686399999
  · rw [decide_eq_true c, decide_eq_false (by omega)]; rfl
  · rw [decide_eq_false c, decide_eq_true (by omega)]; rfl
end Go.EV.Pure
namespace Go.EV.Pure
open Go Go.EV Go.RowKit
set_option maxRecDepth 100000
theorem ready_ev : Ev (fun k => pilekeep1_ready.f k) true := Ev.from 300 fun k => (by kernel_rfl : pilekeep1_ready.f (k + 300) = some true)
end Go.EV.Pure
namespace Go.EV.Pure
open Go Go.EV Go.RowKit
set_option linter.unusedSimpArgs false
/-! Shifts: who has the table, and for how long. -/
def nA : ByteArray := ⟨#[65]⟩
def nE : ByteArray := ⟨#[]⟩
def shName (s : ByteArray) : Prop := s = ⟨#[97, 110, 110]⟩ ∨ s = ⟨#[98, 111, 98]⟩ ∨ s = ⟨#[99, 105, 100]⟩ ∨ s = nE ∨ s = nA
theorem shName_size {s : ByteArray} (h : shName s) : s.size ≤ 3 := by
  rcases h with rfl | rfl | rfl | rfl | rfl <;> decide
theorem IsName_sh {s : ByteArray} (h : shName s) : kit_IsName.f s = some (decide (s ≠ nA)) := by
  rcases h with rfl | rfl | rfl | rfl | rfl <;> kernel_rfl
theorem Key_sh {s : ByteArray} (h : shName s) (hn : s ≠ nE) : pileref1_Key.f s = some (decide (s ≠ nA)) := by
  rcases h with rfl | rfl | rfl | rfl | rfl
  · kernel_rfl
  · kernel_rfl
  · kernel_rfl
  · exact absurd rfl hn
  · kernel_rfl
theorem once_eq (o : List ByteArray) (h : o.length ≤ 100000) : pileref1_once.f o = some (compS (sortB o)) := by
  unfold pileref1_once.f slices_Clone_string_string.f
  rw [if_pos (by simp; omega)]
  simp only [Option.bind_some, List.nil_append]
  unfold slices_Sort_string_string.f
  rw [if_pos (by omega)]
  simp only [Option.bind_some]
  rw [if_pos (sortB_len o).symm]
  unfold slices_Compact_string_string.f
  rw [if_pos (by rw [sortB_len]; omega)]
  rfl
/-- What the stream's shifts are like. -/
def ShL (L : List (Int × ByteArray)) : Prop := L.length ≤ 50 ∧ ∀ s ∈ L, shName s.2 ∧ -1 ≤ s.1 ∧ s.1 ≤ 1000000000000
def shOK (L : List (Int × ByteArray)) (j : Nat) (h : j < L.length) : Prop := (0 ≤ L[j].1 ∧ L[j].1 ≤ 345686399999) ∧ L[j].2 ≠ nA ∧ ∀ _ : 0 < j, (L[j - 1]'(by omega)).1 < L[j].1
theorem wrap_pred {i : Nat} (h0 : 0 < i) (h : i ≤ 1000000000000000) : wrap64 ((i : Int) - 1) = ((i - 1 : Nat) : Int) := by rw [wrap_id (by omega) (by omega)]; omega
theorem Shifts_loop (L : List (Int × ByteArray)) (hL : ShL L) (d : Nat) : ∀ (i : Nat) (o9 : List (ByteArray × Bool)) (o3 : List ByteArray), i + d = L.length → o9.length ≤ i → o3.length ≤ i → (o9.map Prod.fst).Nodup → (∀ x, x ∈ o9.map Prod.fst ↔ x ∈ o3) →
    ∃ v, Ev (fun k => rate_CheckShifts.l0 k L (i : Int) o9) v ∧ Ev (fun k => pileref1_ShiftsFault.l0 k L (i : Int) o3) v ∧ (v = 0 → ∀ j (h : j < L.length), i ≤ j → shOK L j h) := by
  have h50 := hL.1
  induction d with
  | zero =>
    intro i o9 o3 hi h9 h3 hn hm
    refine ⟨0, Ev.succ ?_, Ev.succ ?_, fun _ j h hj => absurd h (by omega)⟩
    · simp only [rate_CheckShifts.l0]
      exact Ev.neg (by omega) (Ev.neg (by simp; omega) (Ev.now _))
    · simp only [pileref1_ShiftsFault.l0, once_eq o3 (by omega), Option.bind_some]
      have e : (compS (sortB o3)).length ≤ i := by
        rw [sort_once _ _ hn hm, sortB_len]
        simp; omega
      exact Ev.neg (by omega) (Ev.neg (by omega) (Ev.now _))
  | succ d ih =>
    intro i o9 o3 hi h9 h3 hn hm
    have hlt : i < L.length := by omega
    obtain ⟨hs, hlo, hhi⟩ := hL.2 L[i] (List.getElem_mem hlt)
    obtain ⟨o9', q9⟩ : ∃ o, o = if L[i].2 = nE then o9 else mput o9 L[i].2 true := ⟨_, rfl⟩
    obtain ⟨o3', q3⟩ : ∃ o, o = if L[i].2 = nE then o3 else o3 ++ [L[i].2] := ⟨_, rfl⟩
    have hl9 : o9'.length ≤ i + 1 := by
      rw [q9]
      split
      · omega
      · have := mput_len o9 L[i].2 true; omega
    have hl3 : o3'.length ≤ i + 1 := by
      rw [q3]
      split
      · omega
      · simp; omega
    have hn9 : (o9'.map Prod.fst).Nodup := by
      rw [q9]
      split
      · exact hn
      · exact mput_nodup _ _ _ hn
    have hm9 : ∀ x, x ∈ o9'.map Prod.fst ↔ x ∈ o3' := by
      intro x
      rw [q9, q3]
      split
      · exact hm x
      · rw [mput_mem, List.mem_append, List.mem_singleton, hm x]
    obtain ⟨v, v1, v2, v3⟩ := ih (i + 1) o9' o3' (by omega) hl9 hl3 hn9 hm9
    have hw : wrap64 ((i : Int) + 1) = ((i + 1 : Nat) : Int) := wrap_succ (by omega)
    have t9 : ∀ o, o = o9' → Ev (fun k => rate_CheckShifts.j15 k L (i : Int) o) v := fun o e => Ev.succ (by
      simp only [rate_CheckShifts.j15, hw]
      rw [e]
      exact v1)
    have t3 : ∀ o, o = o3' → Ev (fun k => pileref1_ShiftsFault.j15 k L (i : Int) o) v := fun o e => Ev.succ (by
      simp only [pileref1_ShiftsFault.j15, hw]
      rw [e]
      exact v2)
    have T9 : Ev (fun k => if L[i].2 = (⟨#[]⟩ : ByteArray) then rate_CheckShifts.j15 k L (i : Int) o9 else rate_CheckShifts.j15 k L (i : Int) (mput o9 L[i].2 true)) v := by
      by_cases c : L[i].2 = nE
      · rw [if_pos c] at q9
        exact Ev.pos c (t9 _ q9.symm)
      · rw [if_neg c] at q9
        exact Ev.neg c (t9 _ q9.symm)
    have T3 : Ev (fun k => if L[i].2 = (⟨#[]⟩ : ByteArray) then pileref1_ShiftsFault.j15 k L (i : Int) o3 else if o3.length + 1 ≤ 549755813888 then pileref1_ShiftsFault.j15 k L (i : Int) (o3 ++ [L[i].2]) else Option.none) v := by
      by_cases c : L[i].2 = nE
      · rw [if_pos c] at q3
        exact Ev.pos c (t3 _ q3.symm)
      · rw [if_neg c] at q3
        exact Ev.neg c (Ev.pos (by omega) (t3 _ q3.symm))
    by_cases c1 : 0 ≤ L[i].1 ∧ L[i].1 ≤ 345686399999
    · have s1 : spanV L[i].1 0 345686399999 = 0 := if_pos c1
      by_cases c2 : L[i].2 = nA
      · refine ⟨5, Ev.succ ?_, Ev.succ ?_, fun q => by omega⟩
        · simp only [rate_CheckShifts.l0, rdE_get e_IS L i hlt, IsMoment_eq, IsName_sh hs, Option.bind_some]
          exact Ev.pos (by omega) (Ev.pos (by omega) (Ev.pos (by omega) (Ev.pos (by simpa using c1) (Ev.neg (by simpa using c2) (Ev.now _)))))
        · have c3 : L[i].2 ≠ nE := by rw [c2]; decide
          simp only [pileref1_ShiftsFault.l0, rdE_get e_IS L i hlt, MomentFault_eq, Key_sh hs c3, Option.bind_some]
          exact Ev.pos (by omega) (Ev.pos (by omega) (Ev.pos (by omega) (Ev.pos s1 (Ev.neg c3 (Ev.neg (by simpa using c2) (Ev.now _))))))
      · -- the order
        have H : ∃ v', Ev (fun k => if (i : Int) > 0 then (if 0 ≤ wrap64 ((i : Int) - 1) then (if wrap64 ((i : Int) - 1) < (L.length : Int) then (if L[i].1 ≤ (rdE e_IS L (wrap64 ((i : Int) - 1))).1 then Option.some 7 else (if L[i].2 = (⟨#[]⟩ : ByteArray) then rate_CheckShifts.j15 k L (i : Int) o9 else rate_CheckShifts.j15 k L (i : Int) (mput o9 L[i].2 true))) else Option.none) else Option.none) else (if L[i].2 = (⟨#[]⟩ : ByteArray) then rate_CheckShifts.j15 k L (i : Int) o9 else rate_CheckShifts.j15 k L (i : Int) (mput o9 L[i].2 true))) v' ∧
            Ev (fun k => if (i : Int) > 0 then (if 0 ≤ wrap64 ((i : Int) - 1) then (if wrap64 ((i : Int) - 1) < (L.length : Int) then (if L[i].1 ≤ (rdE e_IS L (wrap64 ((i : Int) - 1))).1 then Option.some 7 else (if L[i].2 = (⟨#[]⟩ : ByteArray) then pileref1_ShiftsFault.j15 k L (i : Int) o3 else if o3.length + 1 ≤ 549755813888 then pileref1_ShiftsFault.j15 k L (i : Int) (o3 ++ [L[i].2]) else Option.none)) else Option.none) else Option.none) else (if L[i].2 = (⟨#[]⟩ : ByteArray) then pileref1_ShiftsFault.j15 k L (i : Int) o3 else if o3.length + 1 ≤ 549755813888 then pileref1_ShiftsFault.j15 k L (i : Int) (o3 ++ [L[i].2]) else Option.none)) v' ∧ (v' = 0 → v = 0 ∧ ∀ _ : 0 < i, (L[i - 1]'(by omega)).1 < L[i].1) := by
          by_cases c3 : 0 < i
          · rw [wrap_pred c3 (by omega)]
            by_cases c4 : L[i].1 ≤ (rdE e_IS L ((i - 1 : Nat) : Int)).1
            · exact ⟨7, Ev.pos (by omega) (Ev.pos (by omega) (Ev.pos (by omega) (Ev.pos c4 (Ev.now _)))), Ev.pos (by omega) (Ev.pos (by omega) (Ev.pos (by omega) (Ev.pos c4 (Ev.now _)))), fun q => absurd q (by decide)⟩
            · exact ⟨v, Ev.pos (by omega) (Ev.pos (by omega) (Ev.pos (by omega) (Ev.neg c4 T9))), Ev.pos (by omega) (Ev.pos (by omega) (Ev.pos (by omega) (Ev.neg c4 T3))), fun q => ⟨q, fun _ => by rw [rdE_get e_IS L (i - 1) (by omega)] at c4; exact Int.not_le.1 c4⟩⟩
          · exact ⟨v, Ev.neg (by omega) T9, Ev.neg (by omega) T3, fun q => ⟨q, fun h0 => absurd h0 c3⟩⟩
        obtain ⟨v', w1, w2, w3⟩ := H
        refine ⟨v', Ev.succ ?_, Ev.succ ?_, fun q j h hj => ?_⟩
        · simp only [rate_CheckShifts.l0, rdE_get e_IS L i hlt, IsMoment_eq, IsName_sh hs, Option.bind_some]
          exact Ev.pos (by omega) (Ev.pos (by omega) (Ev.pos (by omega) (Ev.pos (by simpa using c1) (Ev.pos (by simpa using c2) w1))))
        · by_cases c3 : L[i].2 = nE
          · simp only [pileref1_ShiftsFault.l0, rdE_get e_IS L i hlt, MomentFault_eq, Option.bind_some]
            exact Ev.pos (by omega) (Ev.pos (by omega) (Ev.pos (by omega) (Ev.pos s1 (Ev.pos c3 w2))))
          · simp only [pileref1_ShiftsFault.l0, rdE_get e_IS L i hlt, MomentFault_eq, Key_sh hs c3, Option.bind_some]
            exact Ev.pos (by omega) (Ev.pos (by omega) (Ev.pos (by omega) (Ev.pos s1 (Ev.neg c3 (Ev.pos (by simpa using c2) w2)))))
        · by_cases e : j = i
          · subst e; exact ⟨c1, c2, (w3 q).2⟩
          · exact v3 (w3 q).1 j h (by omega)
    · have s1 : spanV L[i].1 0 345686399999 = 1 := if_neg c1
      refine ⟨1, Ev.succ ?_, Ev.succ ?_, fun q => by omega⟩
      · simp only [rate_CheckShifts.l0, rdE_get e_IS L i hlt, IsMoment_eq, Option.bind_some]
        exact Ev.pos (by omega) (Ev.pos (by omega) (Ev.pos (by omega) (Ev.neg (by simpa using c1) (Ev.now _))))
      · simp only [pileref1_ShiftsFault.l0, rdE_get e_IS L i hlt, MomentFault_eq, Option.bind_some]
        refine Ev.pos (by omega) (Ev.pos (by omega) (Ev.pos (by omega) ?_))
        rw [s1]
        exact Ev.neg (by omega) (Ev.now _)
theorem Shifts_both (L : List (Int × ByteArray)) (hL : ShL L) : ∃ v, Ev (fun k => rate_CheckShifts.f k L) v ∧ Ev (fun k => pileref1_ShiftsFault.f k L) v ∧ (v = 0 → ∀ j (h : j < L.length), shOK L j h) := by
  have h50 := hL.1
  obtain ⟨v, h1, h2, h3⟩ := Shifts_loop L hL L.length 0 [] [] (by omega) (by simp) (by simp) (by simp) (by simp)
  exact ⟨v, Ev.neg (by omega) h1, Ev.neg (by omega) h2, fun q j h => h3 q j h (by omega)⟩
/-- Who has it at a moment. -/
def whoV (L : List (Int × ByteArray)) (t : Int) : ByteArray := L.foldl (fun a s => if s.1 ≤ t then s.2 else a) nE
theorem fold_succ {α β : Type} (f : β → α → β) (b : β) (L : List α) (i : Nat) (h : i < L.length) : (L.take (i + 1)).foldl f b = f ((L.take i).foldl f b) L[i] := by
  rw [List.take_succ_eq_append_getElem h, List.foldl_append]
  rfl
theorem who_ev (L : List (Int × ByteArray)) (hL : L.length ≤ 1000) (t : Int) : Ev (fun k => rate_who.f k L t) (whoV L t) := by
  obtain ⟨v, rfl, hv⟩ := loop L (fun k i (s : ByteArray) => rate_who.l0 k L t s i) (fun i s => s = (L.take i).foldl (fun a s => if s.1 ≤ t then s.2 else a) nE) (fun v => v = whoV L t)
    (fun i s hi hI => .inl ⟨(L.take (i + 1)).foldl (fun a s => if s.1 ≤ t then s.2 else a) nE, rfl, fun v hv => Ev.succ (by
      simp only [rate_who.l0, rdE_get e_IS L i hi]
      refine Ev.pos (by omega) (Ev.pos (by omega) (Ev.pos (by omega) ?_))
      rw [fold_succ _ _ _ _ hi, ← hI] at hv
      by_cases c : L[i].1 ≤ t
      · rw [if_pos c] at hv
        refine Ev.pos c (Ev.succ ?_)
        simp only [rate_who.j7, wrap_succ (show i ≤ 1000000000000000 by omega)]
        exact hv
      · rw [if_neg c] at hv
        refine Ev.neg c (Ev.succ ?_)
        simp only [rate_who.j7, wrap_succ (show i ≤ 1000000000000000 by omega)]
        exact hv)⟩)
    (fun s hI => ⟨s, by rw [hI, List.take_length]; rfl, Ev.succ (by simp only [rate_who.l0]; exact Ev.neg (by omega) (Ev.now _))⟩) 0 nE (by omega) rfl
  exact hv
/-- The stream's shifts. -/
theorem Shifts_j (o l : List (Int × ByteArray)) (m : List Int) (s : Int) (h : o = l) : Ev (fun k => pilemake_Stream_Shifts.j11 k o m s) (l, m, s) := by
  subst h
  exact Ev.from 1 fun k => rfl
theorem Shifts_gen (l : List Int) (hl : l.length ≤ 140737488351232) (m : Int) (hm : 0 ≤ m ∧ m ≤ 6) (d : Nat) : ∀ (i : Nat) (x s : Int) (o : List (Int × ByteArray)), (i : Int) + d = m → o.length ≤ i → 0 ≤ x → x ≤ 1000000 + i * 3600000 → 0 ≤ s → s + 2 * d ≤ 4611686018427380000 → (∀ y ∈ o, shName y.2 ∧ -1 ≤ y.1 ∧ y.1 ≤ 1000000000000) →
    ∃ (L : List (Int × ByteArray)) (s' : Int), Ev (fun k => pilemake_Stream_Shifts.l0 k x m (i : Int) o l s) (L, l, s') ∧ ShL L ∧ s ≤ s' ∧ s' ≤ s + 2 * d + 10 := by
  induction d with
  | zero =>
    intro i x s o hi ho hx hx2 h0 h1 hy
    have hO : ShL o := ⟨by omega, hy⟩
    by_cases c : (o.length : Int) > 0
    · obtain ⟨b, e1⟩ := Flip_spec l s 15 (by omega) (by omega) (by omega) hl
      cases b with
      | false =>
        refine ⟨o, s + 1, Ev.succ ?_, hO, by omega, by omega⟩
        simp only [pilemake_Stream_Shifts.l0]
        exact Ev.neg (by omega) (Ev.pos c (Ev.bind e1 (Ev.neg (by simp) (Shifts_j _ _ _ _ rfl))))
      | true =>
        obtain ⟨r, e2, r0, r1⟩ := Next_spec l (s + 1) (o.length : Int) (by omega) (by omega) (by omega) hl
        have r2 := r1 (by omega)
        have hmem := rdE_mem e_IS o r r0 r2
        obtain ⟨z, e3, z1⟩ := Pick_spec l (s + 1 + 1) [(rdE e_IS o r).1, -1, 0] (by omega) (by omega) hl (by simp) (by simp)
        obtain ⟨n, e4, n1⟩ := Some_spec l (s + 1 + 1 + 1) [(rdE e_IS o r).2, (⟨#[65]⟩ : ByteArray)] (by omega) (by omega) hl (by simp) (by simp)
        obtain ⟨y1, y2, y3⟩ := hy _ hmem
        simp only [List.mem_cons, List.not_mem_nil, or_false] at z1 n1
        have hn : shName n := by
          rcases n1 with h | h
          · rw [h]; exact y1
          · rw [h]; exact .inr (.inr (.inr (.inr rfl)))
        have hz : -1 ≤ z ∧ z ≤ 1000000000000 := by
          rcases z1 with h | h | h <;> omega
        have hlt : r.toNat < o.length := by omega
        have hrr : (rdE e_IS (o.set r.toNat (z, (rdE e_IS o r).2)) r).1 = z := by
          obtain ⟨q, rfl⟩ : ∃ q : Nat, r = (q : Int) := ⟨r.toNat, by omega⟩
          have hq : q < o.length := by omega
          rw [rdE_get e_IS _ q (by simpa using hq)]
          simp
        refine ⟨(o.set r.toNat (z, (rdE e_IS o r).2)).set r.toNat ((rdE e_IS (o.set r.toNat (z, (rdE e_IS o r).2)) r).1, n), s + 1 + 1 + 1 + 1, Ev.succ ?_, ⟨by simp; omega, fun y hy2 => ?_⟩, by omega, by omega⟩
        · simp only [pilemake_Stream_Shifts.l0]
          exact Ev.neg (by omega) (Ev.pos c (Ev.bind e1 (Ev.pos rfl (Ev.bind e2 (Ev.pos r0 (Ev.pos r2 (Ev.bind e3 (Ev.bind e4 (Shifts_j _ _ _ _ rfl)))))))))
        · rw [hrr, List.set_set] at hy2
          rcases List.mem_or_eq_of_mem_set hy2 with h | h
          · exact hy y h
          · rw [h]; exact ⟨hn, hz⟩
    · refine ⟨o, s, Ev.succ ?_, hO, by omega, by omega⟩
      simp only [pilemake_Stream_Shifts.l0]
      exact Ev.neg (by omega) (Ev.neg c (Shifts_j _ _ _ _ rfl))
  | succ d ih =>
    intro i x s o hi ho hx hx2 h0 h1 hy
    obtain ⟨n, e1, n1⟩ := Some_spec l s [(⟨#[97, 110, 110]⟩ : ByteArray), (⟨#[98, 111, 98]⟩ : ByteArray), (⟨#[99, 105, 100]⟩ : ByteArray), (⟨#[]⟩ : ByteArray)] (by omega) (by omega) hl (by simp) (by simp)
    obtain ⟨z, e2, z1⟩ := Pick_spec l (s + 1) [1, 100000, 2000000, 3600000] (by omega) (by omega) hl (by simp) (by simp)
    simp only [List.mem_cons, List.not_mem_nil, or_false] at z1 n1
    have hn : shName n := by
      rcases n1 with h | h | h | h
      · exact .inl h
      · exact .inr (.inl h)
      · exact .inr (.inr (.inl h))
      · exact .inr (.inr (.inr (.inl h)))
    have hz : 1 ≤ z ∧ z ≤ 3600000 := by rcases z1 with h | h | h | h <;> omega
    have hw : wrap64 (x + z) = x + z := wrap_id (by omega) (by omega)
    obtain ⟨L, s', q1, q2, q3, q4⟩ := ih (i + 1) (x + z) (s + 1 + 1) (o ++ [(x, n)]) (by omega) (by simp; omega) (by omega) (by omega) (by omega) (by omega) (fun y hy2 => by
      rcases List.mem_append.1 hy2 with h | h
      · exact hy y h
      · rw [List.mem_singleton] at h
        rw [h]
        exact ⟨hn, by omega, by omega⟩)
    refine ⟨L, s', Ev.succ ?_, q2, by omega, by omega⟩
    simp only [pilemake_Stream_Shifts.l0, wrap_succ (show i ≤ 1000000000000000 by omega)]
    refine Ev.pos (by omega) (Ev.bind e1 (Ev.pos (by omega) (Ev.bind e2 ?_)))
    simp only [hw]
    exact q1
theorem StreamShifts (l : List Int) (hl : l.length ≤ 140737488351232) (s : Int) (h0 : 0 ≤ s) (h1 : s ≤ 4611686018427370000) :
    ∃ (L : List (Int × ByteArray)) (s' : Int), Ev (fun k => pilemake_Stream_Shifts.f k l s) (L, l, s') ∧ ShL L ∧ s ≤ s' ∧ s' ≤ s + 40 := by
  obtain ⟨x, e1, x1⟩ := Pick_spec l s [0, 500, 1000000] (by omega) (by omega) hl (by simp) (by simp)
  obtain ⟨m, e2, m1, m2⟩ := Range_spec l (s + 1) 0 6 (by omega) (by omega) (by omega) (by omega) (by omega) hl
  simp only [List.mem_cons, List.not_mem_nil, or_false] at x1
  obtain ⟨L, s', q1, q2, q3, q4⟩ := Shifts_gen l hl m ⟨m1, m2⟩ m.toNat 0 x (s + 1 + 1) [] (by omega) (by simp) (by omega) (by omega) (by omega) (by omega) (by simp)
  exact ⟨L, s', Ev.bind e1 (Ev.bind e2 q1), q2, by omega, by omega⟩
end Go.EV.Pure
namespace Go.EV.Pure
open Go Go.EV Go.RowKit
set_option linter.unusedSimpArgs false
/-! Shifts told: how many each one counted, and for how long. -/
def longB : Int := 345686400000
structure MInv (o : List (ByteArray × Int)) (o7 : List ByteArray) (i : Nat) : Prop where
  nd : (o.map Prod.fst).Nodup
  mem : ∀ x, x ∈ o.map Prod.fst ↔ x ∈ o7
  len : o.length ≤ i
  len7 : o7.length ≤ i
  nm : ∀ x ∈ o7, shName x
  lo : ∀ x, 0 ≤ mget 0 o x
  hi : ∀ x, mget 0 o x ≤ i * longB
theorem MInv.next {o : List (ByteArray × Int)} {o7 : List ByteArray} {i : Nat} (h : MInv o o7 i) : MInv o o7 (i + 1) :=
  ⟨h.nd, h.mem, by have := h.len; omega, by have := h.len7; omega, h.nm, h.lo, fun x => by have := h.hi x; unfold longB at *; omega⟩
theorem MInv.put {o : List (ByteArray × Int)} {o7 : List ByteArray} {i : Nat} (h : MInv o o7 i) (x : ByteArray) (hx : shName x) (d : Int) (h0 : 0 ≤ d) (h1 : d ≤ longB) : MInv (mput o x (mget 0 o x + d)) (o7 ++ [x]) (i + 1) := by
  refine ⟨mput_nodup _ _ _ h.nd, fun y => ?_, ?_, ?_, fun y hy => ?_, fun y => ?_, fun y => ?_⟩
  · rw [mput_mem, List.mem_append, List.mem_singleton, h.mem y]
  · have := mput_len o x (mget 0 o x + d)
    have := h.len
    omega
  · have := h.len7
    simp
    omega
  · rcases List.mem_append.1 hy with q | q
    · exact h.nm y q
    · rw [List.mem_singleton] at q
      rw [q]
      exact hx
  · rw [mget_put]
    have := h.lo x
    have := h.lo y
    split <;> omega
  · rw [mget_put]
    have := h.hi x
    have := h.hi y
    unfold longB at *
    split <;> omega
def cntV (L : List (Int × ByteArray)) (a : List Int) (x : ByteArray) : Nat := a.countP fun t => decide (whoV L t = x)
theorem cntV_succ (L : List (Int × ByteArray)) (a : List Int) (x : ByteArray) (i : Nat) (h : i < a.length) : cntV L (a.take (i + 1)) x = cntV L (a.take i) x + if whoV L a[i] = x then 1 else 0 := by
  unfold cntV
  rw [List.take_succ_eq_append_getElem h, List.countP_append]
  simp [List.countP_cons]
theorem cntV_le (L : List (Int × ByteArray)) (a : List Int) (x : ByteArray) (i : Nat) : cntV L (a.take i) x ≤ i := by
  unfold cntV
  exact Nat.le_trans List.countP_le_length (by simp; omega)
def rowV (L : List (Int × ByteArray)) (a : List Int) (o : List (ByteArray × Int)) (x : ByteArray) : ByteArray × Int × Int := (x, (cntV L a x : Int), mget (0 : Int) o x)
def countsV (L : List (Int × ByteArray)) (a : List Int) (o : List (ByteArray × Int)) : List (ByteArray × Int × Int) := (sortB (o.map Prod.fst)).map (rowV L a o)
theorem CountsP_l1 (L : List (Int × ByteArray)) (a : List Int) (o o31 : List (ByteArray × Int)) (h31 : ∀ x, mget (0 : Int) o31 x = (cntV L a x : Int)) (K : List ByteArray) (hK : K.length ≤ 100000) :
    Ev (fun k => rate_Counts.l1 k o o31 K (K.length : Int) 0 []) (K.map (rowV L a o), 0) := by
  obtain ⟨v, rfl, hv⟩ := loop K (fun k i (s : List (ByteArray × Int × Int)) => rate_Counts.l1 k o o31 K (K.length : Int) i s) (fun i s => s = (K.take i).map (rowV L a o)) (fun v => v = (K.map (rowV L a o), 0))
    (fun i s hi hI => .inl ⟨(K.take (i + 1)).map (rowV L a o), rfl, fun v hv => Ev.succ (by
      simp only [rate_Counts.l1, rdE_get eS K i hi, wrap_succ (show i ≤ 1000000000000000 by omega), h31]
      rw [List.take_succ_eq_append_getElem hi, List.map_append, ← hI] at hv
      have hl : s.length ≤ i := by rw [hI]; simp; omega
      exact Ev.pos (by omega) (Ev.pos (by omega) (Ev.pos (by omega) (Ev.pos (by simp; omega) hv))))⟩)
    (fun s hI => ⟨_, rfl, Ev.succ (by
      simp only [rate_Counts.l1]
      rw [List.take_length] at hI
      rw [← hI]
      exact Ev.neg (by omega) (Ev.now _))⟩) 0 [] (by omega) rfl
  exact hv
theorem CountsP_l0 (L : List (Int × ByteArray)) (hL : L.length ≤ 1000) (a : List Int) (ha : a.length ≤ 10000) (o : List (ByteArray × Int)) (o7 : List ByteArray) (hI : MInv o o7 L.length) :
    Ev (fun k => rate_Counts.l0 k a L 0 o []) (countsV L a o, 0) := by
  have hlen := hI.len
  obtain ⟨v, rfl, hv⟩ := loop a (fun k i (m : List (ByteArray × Int)) => rate_Counts.l0 k a L i o m) (fun i m => ∀ x, mget (0 : Int) m x = (cntV L (a.take i) x : Int)) (fun v => v = (countsV L a o, 0))
    (fun i m hi hm => .inl ⟨mput m (whoV L a[i]) (wrap64 (mget (0 : Int) m (whoV L a[i]) + 1)), fun x => by
      rw [mget_put, cntV_succ L a x i hi, hm, wrap_succ (by have := cntV_le L a (whoV L a[i]) i; omega)]
      by_cases c : x = whoV L a[i]
      · rw [if_pos c, if_pos c.symm, c]
      · rw [if_neg c, if_neg (fun e => c e.symm), hm]
        rfl, fun v hv => Ev.succ (by
      simp only [rate_Counts.l0, rd_get a i hi, wrap_succ (show i ≤ 1000000000000000 by omega)]
      exact Ev.pos (by omega) (Ev.pos (by omega) (Ev.pos (by omega) (Ev.bind (who_ev L hL a[i]) hv))))⟩)
    (fun m hm => ⟨_, rfl, Ev.succ (by
      rw [List.take_length] at hm
      have e2 : slices_Sorted_string_of_maps_Keys_map_string_int_string_int_1.f o = some (sortB (o.map Prod.fst)) := by
        unfold slices_Sorted_string_of_maps_Keys_map_string_int_string_int_1.f
        rw [if_pos ⟨hI.nd, fun s hs => by
          have := shName_size (hI.nm s ((hI.mem s).1 hs))
          unfold Go.maxLen
          omega, by omega⟩]
      simp only [rate_Counts.l0, e2, maps_Keys_map_string_int_string_int.f, Option.bind_some]
      exact Ev.neg (by omega) (CountsP_l1 L a o m hm _ (by rw [sortB_len]; simp; omega)))⟩) 0 [] (by omega) (fun x => by rw [mget_not 0 [] x (by simp)]; simp [cntV])
  exact hv
/-! The fairest. -/
def gV (T : Int) (n : Nat) (v : Int) : Int := mx 0 (wrap64 (v - wrap64 (Int.tdiv T (n : Int))))
theorem gV_nn (T : Int) (n : Nat) (v : Int) : 0 ≤ gV T n v := by unfold gV mx; split <;> omega
theorem gV_le (T : Int) (n : Nat) (v : Int) (hn : 0 < n) (hT : 0 ≤ T) (hT2 : T ≤ 100000000000000000) (h0 : 0 ≤ v) (h1 : v ≤ 100000000000000) : gV T n v ≤ v := by
  have h2 : 0 ≤ T / (n : Int) := Int.ediv_nonneg hT (by omega)
  have h3 : T / (n : Int) ≤ T := Int.ediv_le_self _ hT
  unfold gV
  rw [tdiv_pos hT, wrap_id (e := T / (n : Int)) (by omega) (by omega), wrap_id (by omega) (by omega)]
  unfold mx
  split <;> omega
theorem FairP_l1 (T : Int) (o : List (ByteArray × Int)) (U : Int) (hU : U ≤ 4611686018427380000) (m : Nat) : ∀ (rem : List Nat) (x : Int) (q : Nat), rem.length = m → 0 ≤ x → x + (rem.map fun j => gV T (o.map Prod.fst).length ((o.map Prod.snd).getD j 0)).sum = U →
    Ev (fun k => rate_Fairest.l1 k T o x rem q) (U, 0) := by
  induction m with
  | zero =>
    intro rem x q hr hx hs
    obtain rfl := List.length_eq_zero_iff.1 hr
    refine Ev.succ ?_
    simp only [rate_Fairest.l1]
    refine Ev.alt (fun _ => ?_) (fun j hj => absurd hj (by simp))
    simp at hs
    rw [hs]
    exact Ev.now _
  | succ m ih =>
    intro rem x q hr hx hs
    refine Ev.succ ?_
    simp only [rate_Fairest.l1]
    refine Ev.alt (fun h => absurd h (by omega)) (fun j hj => ?_)
    have e := sum_erase (fun j => gV T (o.map Prod.fst).length ((o.map Prod.snd).getD j 0)) 0 rem j hj
    have h1 := gV_nn T (o.map Prod.fst).length ((o.map Prod.snd).getD (rem.getD j 0) 0)
    have h2 : 0 ≤ ((rem.eraseIdx j).map fun j => gV T (o.map Prod.fst).length ((o.map Prod.snd).getD j 0)).sum := sum_nn fun y hy => by
      obtain ⟨z, _, rfl⟩ := List.mem_map.1 hy
      exact gV_nn _ _ _
    have hw : wrap64 (x + gV T (o.map Prod.fst).length ((o.map Prod.snd).getD (rem.getD j 0) 0)) = x + gV T (o.map Prod.fst).length ((o.map Prod.snd).getD (rem.getD j 0) 0) := wrap_id (by omega) (by omega)
    have := ih (rem.eraseIdx j) (x + gV T (o.map Prod.fst).length ((o.map Prod.snd).getD (rem.getD j 0) 0)) (rem.getD j 0) (by rw [List.length_eraseIdx_of_lt hj]; omega) (by omega) (by omega)
    rw [← hw] at this
    exact this
theorem FairP_l0 (o : List (ByteArray × Int)) (ho : 0 < o.length) (hv : ∀ j, 0 ≤ (o.map Prod.snd).getD j 0) (T U : Int) (hT : T ≤ 4611686018427380000) (hU : U ≤ 4611686018427380000) (hUs : ((List.range (o.map Prod.fst).length).map fun j => gV T (o.map Prod.fst).length ((o.map Prod.snd).getD j 0)).sum = U) (m : Nat) : ∀ (rem : List Nat) (x : Int) (q : Nat), rem.length = m → 0 ≤ x → x + (rem.map fun j => (o.map Prod.snd).getD j 0).sum = T →
    Ev (fun k => rate_Fairest.l0 k x o rem q) (U, 0) := by
  induction m with
  | zero =>
    intro rem x q hr hx hs
    obtain rfl := List.length_eq_zero_iff.1 hr
    refine Ev.succ ?_
    simp only [rate_Fairest.l0]
    refine Ev.alt (fun _ => ?_) (fun j hj => absurd hj (by simp))
    simp at hs
    rw [hs]
    exact Ev.neg (by simp; intro e; rw [e] at ho; simp at ho) (FairP_l1 T o U hU _ _ 0 _ rfl (by omega) (by omega))
  | succ m ih =>
    intro rem x q hr hx hs
    refine Ev.succ ?_
    simp only [rate_Fairest.l0]
    refine Ev.alt (fun h => absurd h (by omega)) (fun j hj => ?_)
    have e := sum_erase (fun j => (o.map Prod.snd).getD j 0) 0 rem j hj
    have h1 := hv (rem.getD j 0)
    have h2 : 0 ≤ ((rem.eraseIdx j).map fun j => (o.map Prod.snd).getD j 0).sum := sum_nn fun y hy => by
      obtain ⟨z, _, rfl⟩ := List.mem_map.1 hy
      exact hv z
    have hw : wrap64 (x + (o.map Prod.snd).getD (rem.getD j 0) 0) = x + (o.map Prod.snd).getD (rem.getD j 0) 0 := wrap_id (by omega) (by omega)
    have := ih (rem.eraseIdx j) (x + (o.map Prod.snd).getD (rem.getD j 0) 0) (rem.getD j 0) (by rw [List.length_eraseIdx_of_lt hj]; omega) (by omega) (by omega)
    rw [← hw] at this
    exact this
theorem sum_take (g : ByteArray × Int × Int → Int) (C : List (ByteArray × Int × Int)) (i : Nat) (h : i < C.length) : ((C.take (i + 1)).map g).sum = ((C.take i).map g).sum + g C[i] := by
  rw [List.take_succ_eq_append_getElem h, List.map_append, List.sum_append]
  simp
theorem take_sum_le (g : ByteArray × Int × Int → Int) (C : List (ByteArray × Int × Int)) (hg : ∀ c ∈ C, 0 ≤ g c) (i : Nat) : 0 ≤ ((C.take i).map g).sum ∧ ((C.take i).map g).sum ≤ (C.map g).sum := by
  constructor
  · exact sum_nn fun y hy => by
      obtain ⟨z, hz, rfl⟩ := List.mem_map.1 hy
      exact hg z (List.mem_of_mem_take hz)
  · have : (C.map g).sum = ((C.take i).map g).sum + ((C.drop i).map g).sum := by rw [← List.sum_append, ← List.map_append, List.take_append_drop]
    have h2 : 0 ≤ ((C.drop i).map g).sum := sum_nn fun y hy => by
      obtain ⟨z, hz, rfl⟩ := List.mem_map.1 hy
      exact hg z (List.mem_of_mem_drop hz)
    omega
end Go.EV.Pure
namespace Go.EV.Pure
open Go Go.EV Go.RowKit
set_option linter.unusedSimpArgs false
/-! Shifts told: the law. -/
end Go.EV.Pure
namespace Go.EV.Pure
open Go Go.EV Go.RowKit
set_option linter.unusedSimpArgs false
/-! Shifts are counted: each call once, and no more time than the window has. -/
theorem sum_setI (l : List Int) (v : Int) : ∀ (i : Nat) (h : i < l.length), (l.set i v).sum = l.sum - l[i] + v := by
  induction l with
  | nil => intro i h; simp at h
  | cons x l ih =>
    intro i h
    cases i with
    | zero => simp; omega
    | succ i =>
      have := ih i (by simpa using h)
      simp only [List.set_cons_succ, List.sum_cons, List.getElem_cons_succ]
      omega
theorem sum_put (o : List (ByteArray × Int)) (x : ByteArray) (d : Int) : ((mput o x (mget 0 o x + d)).map Prod.snd).sum = (o.map Prod.snd).sum + d := by
  by_cases h : x ∈ o.map Prod.fst
  · have hi := List.idxOf_lt_length_iff.2 h
    have hi2 : (o.map Prod.fst).idxOf x < (o.map Prod.snd).length := by simpa using hi
    have e : mget 0 o x = (o.map Prod.snd)[(o.map Prod.fst).idxOf x]'hi2 := by
      unfold mget
      rw [List.getD, List.getElem?_eq_getElem hi2]
      rfl
    unfold mput
    rw [if_pos h, List.map_set, sum_setI _ _ _ hi2, ← e]
    show _ - mget 0 o x + (mget 0 o x + d) = _
    generalize mget 0 o x = z
    omega
  · rw [mget_not 0 o x h]
    unfold mput
    rw [if_neg h, List.map_append, List.sum_append]
    simp
def endV (L : List (Int × ByteArray)) (i : Nat) : Int := if h : i < L.length then L[i].1 else 345686400000
def clampV (w0 w1 z : Int) : Int := if z ≤ w0 then w0 else if w1 ≤ z then w1 else z
theorem clamp_lo (w0 w1 z : Int) (h : w0 < w1) : w0 ≤ clampV w0 w1 z := by
  unfold clampV
  repeat' split
  all_goals omega
theorem clamp_step (w0 w1 t e : Int) (h : w0 < w1) (ht : t < e) : clampV w0 w1 t ≤ clampV w0 w1 e ∧ (mn e w1 - mx t w0 > 0 → mn e w1 - mx t w0 = clampV w0 w1 e - clampV w0 w1 t) := by
  unfold clampV mn mx
  repeat' split
  all_goals omega
theorem mnmx_range (w0 w1 t e : Int) (h : 0 ≤ w0 ∧ w0 < w1 ∧ w1 ≤ 345686400000) (ht : 0 ≤ t ∧ t ≤ 345686399999) (he : 0 ≤ e ∧ e ≤ 345686400000) : -345686400000 ≤ mn e w1 - mx t w0 ∧ mn e w1 - mx t w0 ≤ 345686400000 := by
  unfold mn mx
  repeat' split
  all_goals omega
structure LInv (L : List (Int × ByteArray)) (w0 w1 : Int) (o : List (ByteArray × Int)) (i : Nat) : Prop where
  noE : nE ∉ o.map Prod.fst
  sum : (o.map Prod.snd).sum ≤ clampV w0 w1 (endV L i) - w0
  cov : ∀ j (h : j < L.length), j < i → mn (endV L (j + 1)) w1 - mx L[j].1 w0 > 0 → L[j].2 ≠ nE → L[j].2 ∈ o.map Prod.fst
theorem Longs2_loop (L : List (Int × ByteArray)) (hL : ShL L) (hok : ∀ j (h : j < L.length), shOK L j h) (w0 w1 : Int) (hw : 0 ≤ w0 ∧ w0 < w1 ∧ w1 ≤ 345686400000) (d : Nat) : ∀ (i : Nat) (o : List (ByteArray × Int)) (o7 : List ByteArray), i + d = L.length → MInv o o7 i → LInv L w0 w1 o i →
    ∃ (o' : List (ByteArray × Int)) (o7' : List ByteArray), MInv o' o7' L.length ∧ LInv L w0 w1 o' L.length ∧ Ev (fun k => rate_longs.l0 k L w0 w1 (i : Int) o) o' := by
  have h50 := hL.1
  induction d with
  | zero =>
    intro i o o7 hi hI hJ
    obtain rfl : i = L.length := by omega
    refine ⟨o, o7, hI, hJ, Ev.succ ?_⟩
    simp only [rate_longs.l0]
    exact Ev.neg (by omega) (Ev.now _)
  | succ d ih =>
    intro i o o7 hi hI hJ
    have hlt : i < L.length := by omega
    have hw1 : wrap64 ((i : Int) + 1) = ((i + 1 : Nat) : Int) := wrap_succ (by omega)
    have hB : 0 ≤ (i : Int) := Int.natCast_nonneg i
    have hB1 : 0 ≤ ((i + 1 : Nat) : Int) := Int.natCast_nonneg _
    have hA : (i : Int) < (L.length : Int) := Int.ofNat_lt.2 hlt
    obtain ⟨⟨t, nm⟩, hq⟩ : ∃ p, p = L[i] := ⟨_, rfl⟩
    have hrd : rdE e_IS L (i : Int) = (t, nm) := by rw [rdE_get e_IS L i hlt]; exact hq.symm
    have hs : shName nm := by have := (hL.2 L[i] (List.getElem_mem hlt)).1; rw [← hq] at this; exact this
    have hk : 0 ≤ t ∧ t ≤ 345686399999 := by have := (hok i hlt).1; rw [← hq] at this; exact this
    have he0 : endV L i = t := by unfold endV; rw [dif_pos hlt, ← hq]
    obtain ⟨e, he⟩ : ∃ e, e = endV L (i + 1) := ⟨_, rfl⟩
    have he2 : (0 ≤ e ∧ e ≤ 345686400000) ∧ t < e := by
      rw [he]
      unfold endV
      split
      · rename_i h
        have h1 := hok (i + 1) h
        have h2 := h1.2.2 (by omega)
        have h3 := h1.1
        simp only [Nat.add_sub_cancel] at h2
        rw [← hq] at h2
        revert h2 h3
        generalize L[i + 1].1 = z
        intro h2 h3
        omega
      · omega
    obtain ⟨s1, s2⟩ := clamp_step w0 w1 t e hw.2.1 he2.2
    obtain ⟨r1, r2⟩ := mnmx_range w0 w1 t e hw hk he2.1
    obtain ⟨dd, hdd⟩ : ∃ z, z = mn e w1 - mx t w0 := ⟨_, rfl⟩
    rw [← hdd] at s2 r1 r2
    have hwd : wrap64 (mn e w1 - mx t w0) = dd := by rw [← hdd]; exact wrap_id (by omega) (by omega)
    have hws : wrap64 (mget (0 : Int) o nm + dd) = mget (0 : Int) o nm + dd := by
      have hlo' := hI.lo nm
      have hhi' := hI.hi nm
      revert hlo' hhi'
      generalize mget (0 : Int) o nm = z
      intro hlo' hhi'
      unfold longB at hhi'
      exact wrap_id (by omega) (by omega)
    have hcov : ∀ (P : ByteArray → Prop), (∀ x, x ∈ o.map Prod.fst → P x) → (dd > 0 → nm ≠ nE → P nm) → ∀ j (h : j < L.length), j < i + 1 → mn (endV L (j + 1)) w1 - mx L[j].1 w0 > 0 → L[j].2 ≠ nE → P L[j].2 := by
      intro P h1 h2 j h hj hp hne
      rcases Nat.lt_or_ge j i with q | q
      · exact h1 _ (hJ.cov j h q hp hne)
      · obtain rfl : j = i := by omega
        rw [← hq] at hp hne ⊢
        rw [← he, ← hdd] at hp
        exact h2 hp hne
    have H : ∃ (o' : List (ByteArray × Int)) (o7' : List ByteArray), MInv o' o7' L.length ∧ LInv L w0 w1 o' L.length ∧ Ev (fun k => rate_longs.j8 k L w0 w1 (i : Int) o e) o' := by
      have go : ∀ (o2 : List (ByteArray × Int)) (o72 : List ByteArray), MInv o2 o72 (i + 1) → LInv L w0 w1 o2 (i + 1) → ∃ (o' : List (ByteArray × Int)) (o7' : List ByteArray), MInv o' o7' L.length ∧ LInv L w0 w1 o' L.length ∧ Ev (fun k => rate_longs.j11 k L w0 w1 (i : Int) o2) o' := by
        intro o2 o72 h2 h3
        obtain ⟨o', o7', q1, q2, q3⟩ := ih (i + 1) o2 o72 (by omega) h2 h3
        refine ⟨o', o7', q1, q2, Ev.succ ?_⟩
        simp only [rate_longs.j11, hw1]
        exact q3
      have same : (dd > 0 → nm = nE) → LInv L w0 w1 o (i + 1) := fun hz => by
        refine ⟨hJ.noE, ?_, hcov _ (fun x hx => hx) fun h1 h2 => absurd (hz h1) h2⟩
        have := hJ.sum
        rw [he0] at this
        rw [← he]
        exact Int.le_trans this (by omega)
      by_cases c : dd > 0
      · by_cases c2 : nm = nE
        · obtain ⟨o', o7', q1, q2, q3⟩ := go o o7 hI.next (same fun _ => c2)
          refine ⟨o', o7', q1, q2, Ev.succ ?_⟩
          simp only [rate_longs.j8, hrd, hwd]
          exact Ev.pos c (Ev.pos c2 q3)
        · have hJ2 : LInv L w0 w1 (mput o nm (mget 0 o nm + dd)) (i + 1) := by
            refine ⟨fun h => ?_, ?_, hcov _ (fun x hx => (mput_mem _ _ _ _).2 (.inl hx)) fun _ _ => (mput_mem _ _ _ _).2 (.inr rfl)⟩
            · rcases (mput_mem _ _ _ _).1 h with h | h
              · exact hJ.noE h
              · exact c2 h.symm
            · have h1 := hJ.sum
              have h2 := s2 c
              rw [he0] at h1
              rw [sum_put, ← he]
              revert h1 h2
              generalize (o.map Prod.snd).sum = S
              intro h1 h2
              omega
          obtain ⟨o', o7', q1, q2, q3⟩ := go _ _ (hI.put nm hs dd (Int.le_of_lt c) r2) hJ2
          refine ⟨o', o7', q1, q2, Ev.succ ?_⟩
          simp only [rate_longs.j8, hrd, hwd, hws]
          exact Ev.pos c (Ev.neg c2 q3)
      · obtain ⟨o', o7', q1, q2, q3⟩ := go o o7 hI.next (same fun h => absurd h c)
        refine ⟨o', o7', q1, q2, Ev.succ ?_⟩
        simp only [rate_longs.j8, hrd, hwd]
        exact Ev.neg c q3
    obtain ⟨o', o7', q1, q2, q3⟩ := H
    refine ⟨o', o7', q1, q2, Ev.succ ?_⟩
    simp only [rate_longs.l0]
    rw [hw1]
    refine Ev.pos hA (Ev.pos hB (Ev.pos hA ?_))
    by_cases c : i + 1 < L.length
    · have : e = L[i + 1].1 := by rw [he]; unfold endV; rw [dif_pos c]
      rw [this] at q3
      simp only [rdE_get e_IS L (i + 1) c]
      exact Ev.pos (Int.ofNat_lt.2 c) (Ev.pos hB1 (Ev.pos (Int.ofNat_lt.2 c) q3))
    · have : e = 345686400000 := by rw [he]; unfold endV; rw [dif_neg c]
      rw [this] at q3
      exact Ev.neg (fun q => c (Int.ofNat_lt.1 q)) q3
/-- Who has it: the last one that began. -/
theorem who_last (L : List (Int × ByteArray)) (t : Int) (i : Nat) : i ≤ L.length → (L.take i).foldl (fun a s => if s.1 ≤ t then s.2 else a) nE = nE ∨ ∃ j, ∃ h : j < L.length, j < i ∧ L[j].1 ≤ t ∧ (L.take i).foldl (fun a s => if s.1 ≤ t then s.2 else a) nE = L[j].2 ∧ ∀ j' (h' : j' < L.length), j < j' → j' < i → t < L[j'].1 := by
  induction i with
  | zero => intro _; exact .inl rfl
  | succ i ih =>
    intro hi
    have hlt : i < L.length := by omega
    rw [fold_succ _ _ _ _ hlt]
    by_cases c : L[i].1 ≤ t
    · rw [if_pos c]
      exact .inr ⟨i, hlt, by omega, c, rfl, fun j' h' h1 h2 => absurd h1 (by omega)⟩
    · rw [if_neg c]
      rcases ih (by omega) with h | ⟨j, hj, h1, h2, h3, h4⟩
      · exact .inl h
      · refine .inr ⟨j, hj, by omega, h2, h3, fun j' h' a b => ?_⟩
        by_cases e : j' = i
        · subst e; exact Int.not_le.1 c
        · exact h4 j' h' a (by omega)
theorem who_in (L : List (Int × ByteArray)) (w0 w1 : Int) (hw : w1 ≤ 345686400000) (o : List (ByteArray × Int)) (hJ : LInv L w0 w1 o L.length) (t : Int) (h0 : w0 ≤ t) (h1 : t < w1) : whoV L t ∈ o.map Prod.fst ↔ whoV L t ≠ nE := by
  constructor
  · intro h e
    rw [e] at h
    exact hJ.noE h
  · intro hne
    have h := who_last L t L.length (Nat.le_refl _)
    rw [List.take_length] at h
    rcases h with h | ⟨j, hj, _, h2, h3, h4⟩
    · exact absurd h hne
    · have e3 : whoV L t = L[j].2 := h3
      rw [e3] at hne ⊢
      refine hJ.cov j hj hj ?_ hne
      have he : t < endV L (j + 1) := by
        unfold endV
        split
        · rename_i q
          exact h4 (j + 1) q (by omega) q
        · omega
      revert he h2
      generalize endV L (j + 1) = e
      generalize L[j].1 = z
      intro h2 he
      unfold mn mx
      repeat' split
      all_goals omega
theorem sum_add {α : Type} (f g : α → Int) (K : List α) : (K.map fun x => f x + g x).sum = (K.map f).sum + (K.map g).sum := by
  induction K with
  | nil => rfl
  | cons x K ih => simp only [List.map_cons, List.sum_cons, ih]; omega
theorem sum_ind (w : ByteArray) (K : List ByteArray) (h : K.Nodup) : (K.map fun x => if w = x then (1 : Int) else 0).sum = if w ∈ K then 1 else 0 := by
  induction K with
  | nil => rfl
  | cons x K ih =>
    obtain ⟨h1, h2⟩ := List.nodup_cons.1 h
    simp only [List.map_cons, List.sum_cons, ih h2, List.mem_cons]
    by_cases c : w = x
    · subst c
      rw [if_pos rfl, if_neg h1, if_pos (.inl rfl)]
      rfl
    · rw [if_neg c]
      by_cases c2 : w ∈ K
      · rw [if_pos c2, if_pos (.inr c2)]; rfl
      · rw [if_neg c2, if_neg (fun q => q.elim c c2)]; rfl
theorem sum_zero {α : Type} (K : List α) : (K.map fun _ => (0 : Int)).sum = 0 := by
  induction K with
  | nil => rfl
  | cons x K ih => simp only [List.map_cons, List.sum_cons, ih]; rfl
def hasV (L : List (Int × ByteArray)) (t : Int) : Bool := !decide (whoV L t = (⟨#[]⟩ : ByteArray))
theorem sum_cnt (L : List (Int × ByteArray)) (K : List ByteArray) (hK : K.Nodup) (a : List Int) : (∀ t ∈ a, whoV L t ∈ K ↔ whoV L t ≠ nE) → (K.map fun x => (cntV L a x : Int)).sum = (a.countP (hasV L) : Int) := by
  induction a with
  | nil => intro _; exact sum_zero K
  | cons t a ih =>
    intro h
    have e : (fun x => (cntV L (t :: a) x : Int)) = fun x => (cntV L a x : Int) + if whoV L t = x then (1 : Int) else 0 := by
      funext x
      unfold cntV
      rw [List.countP_cons]
      by_cases c : whoV L t = x
      · simp [c]
      · simp [c]
    rw [e, sum_add (fun x => (cntV L a x : Int)) (fun x => if whoV L t = x then (1 : Int) else 0), ih fun y hy => h y (List.mem_cons_of_mem _ hy), sum_ind _ _ hK, List.countP_cons]
    have h1 := h t (List.mem_cons_self ..)
    by_cases c : whoV L t = nE
    · rw [if_neg (fun q => h1.1 q c)]
      have : hasV L t = false := by
        have c' : whoV L t = (⟨#[]⟩ : ByteArray) := c
        unfold hasV
        simp [c']
      simp [this]
    · rw [if_pos (h1.2 c)]
      have : hasV L t = true := by
        have c' : ¬ whoV L t = (⟨#[]⟩ : ByteArray) := c
        unfold hasV
        simp [c']
      simp [this]
theorem sum_le2 (f g : Int → Int) (l : List Int) (h : ∀ x ∈ l, f x ≤ g x) : (l.map f).sum ≤ (l.map g).sum := by
  induction l with
  | nil => exact Int.le_refl _
  | cons x l ih =>
    have h1 := ih fun y hy => h y (List.mem_cons_of_mem _ hy)
    have h2 := h x (List.mem_cons_self ..)
    simp only [List.map_cons, List.sum_cons]
    omega
theorem map_getD_range2 (o : List (ByteArray × Int)) (g : Int → Int) : ((List.range (o.map Prod.fst).length).map fun j => g ((o.map Prod.snd).getD j 0)) = (o.map Prod.snd).map g := by
  have e : (o.map Prod.fst).length = (o.map Prod.snd).length := by simp
  rw [e]
  have := range_getD (o.map Prod.snd)
  conv => rhs; rw [← this]
  rw [List.map_map]
  rfl
theorem Fairest2 (L : List (Int × ByteArray)) (hL : L.length ≤ 50) (hv : Ev (fun k => rate_CheckShifts.f k L) 0) (w0 w1 : Int) (hw : 0 ≤ w0 ∧ w0 < w1 ∧ w1 ≤ 345686400000) (o : List (ByteArray × Int)) (o7 : List ByteArray) (hI : MInv o o7 L.length) (h1 : Ev (fun k => rate_longs.f k L w0 w1) o) :
    ∃ U, Ev (fun k => rate_Fairest.f k L w0 w1) (U, 0) ∧ U ≤ (o.map Prod.snd).sum ∧ 0 ≤ (o.map Prod.snd).sum := by
  have hlen := hI.len
  have hvals : ∀ y ∈ o.map Prod.snd, 0 ≤ y ∧ y ≤ 20000000000000 := fun y hy => by
    rw [← mget_keys 0 o hI.nd] at hy
    obtain ⟨x, _, rfl⟩ := List.mem_map.1 hy
    have q1 := hI.lo x
    have q2 := hI.hi x
    refine ⟨q1, Int.le_trans q2 ?_⟩
    unfold longB
    omega
  obtain ⟨T, hT⟩ : ∃ T, T = (o.map Prod.snd).sum := ⟨_, rfl⟩
  have hT0 : 0 ≤ T := by rw [hT]; exact sum_nn fun y hy => (hvals y hy).1
  have hT1 : T ≤ 1000000000000000 := by
    have := sum_le 20000000000000 fun y hy => (hvals y hy).2
    rw [← hT] at this
    rw [List.length_map] at this
    omega
  obtain ⟨U, hU⟩ : ∃ U, U = ((o.map Prod.snd).map (gV T (o.map Prod.fst).length)).sum := ⟨_, rfl⟩
  have hUT : U ≤ T := by
    have := sum_le2 (gV T (o.map Prod.fst).length) id (o.map Prod.snd) fun x hx => by
      obtain ⟨q1, q2⟩ := hvals x hx
      have hn : 0 < (o.map Prod.fst).length := by
        have := List.length_pos_of_mem hx
        simpa using this
      exact gV_le T (o.map Prod.fst).length x hn hT0 (by omega) q1 (by omega)
    simp only [List.map_id] at this
    rw [hU, hT]
    exact hT ▸ this
  rw [← hT]
  refine ⟨U, ?_, hUT, hT0⟩
  unfold rate_Fairest.f
  simp only [IsTime_eq, Option.bind_some]
  refine Ev.bind hv (Ev.pos rfl (Ev.pos (by simpa using hw) (Ev.bind h1 ?_)))
  by_cases c3 : o = []
  · have : U = 0 := by rw [hU, c3]; rfl
    rw [this]
    exact Ev.pos (by rw [c3]; rfl) (Ev.now _)
  · have hp : 0 < o.length := List.length_pos_iff.2 c3
    refine Ev.neg (by simp; exact c3) (FairP_l0 o hp (fun j => ?_) T U (by omega) (by omega) ?_ _ _ 0 _ rfl (by omega) ?_)
    · by_cases q : j < (o.map Prod.snd).length
      · have : (o.map Prod.snd).getD j 0 ∈ o.map Prod.snd := by
          rw [List.getD, List.getElem?_eq_getElem q]
          exact List.getElem_mem q
        exact (hvals _ this).1
      · rw [List.getD, List.getElem?_eq_none (by omega)]
        exact Int.le_refl 0
    · rw [hU, map_getD_range2 o (gV T (o.map Prod.fst).length)]
    · have := map_getD_range2 o id
      simp only [List.map_id, id] at this
      rw [this, ← hT]
      omega
theorem SAC_l1 (L : List (Int × ByteArray)) (hL : L.length ≤ 50) (v1 : Ev (fun k => rate_CheckShifts.f k L) 0) (a : List Int) (ha : a.length ≤ 1000) (w0 w1 : Int) (hw : 0 ≤ w0 ∧ w0 < w1 ∧ w1 ≤ 345686400000) (hm : ∀ t ∈ a, w0 ≤ t ∧ t < w1) (T U : Int) (hT : T ≤ w1 - w0) (hU : U ≤ T) (u1 : Ev (fun k => rate_Fairest.f k L w0 w1) (U, 0)) :
    Ev (fun k => pilekeep1_ShiftsAreCounted.l1 k a L (a.countP (hasV L) : Int) T w0 w1 0 0) true := by
  have hww : wrap64 (w1 - w0) = w1 - w0 := wrap_id (by omega) (by omega)
  have hR : Ev (fun k => (pilekeep1_ready.f k).bind fun r => Option.some r) true := Ev.bind ready_ev (Ev.now _)
  have hW : ∀ t ∈ a, Ev (fun k => rate_Who.f k L t) (whoV L t, hasV L t, 0) := fun t ht => by
    have h1 := hm t ht
    unfold rate_Who.f
    simp only [IsMoment_eq, Option.bind_some]
    exact Ev.bind v1 (Ev.pos rfl (Ev.pos (by simp; omega) (Ev.bind (who_ev L (by omega) t) (Ev.now _))))
  obtain ⟨r, rfl, hr⟩ := loop a (fun k i (n : Nat) => pilekeep1_ShiftsAreCounted.l1 k a L (a.countP (hasV L) : Int) T w0 w1 (n : Int) i) (fun i n => n ≤ i ∧ n = (a.take i).countP (hasV L)) (fun r => r = true)
    (fun i n hi ⟨hle, hn⟩ => by
      have hn1 : wrap64 ((n : Int) + 1) = ((n + 1 : Nat) : Int) := wrap_succ (by omega)
      have hi1 : wrap64 ((i : Int) + 1) = ((i + 1 : Nat) : Int) := wrap_succ (by omega)
      have hA : (i : Int) < (a.length : Int) := Int.ofNat_lt.2 hi
      have hB : 0 ≤ (i : Int) := Int.natCast_nonneg i
      by_cases c1 : hasV L a[i] = true
      · refine .inl ⟨n + 1, ⟨Nat.succ_le_succ hle, ?_⟩, fun r hr => Ev.succ ?_⟩
        · rw [List.take_succ_eq_append_getElem hi, List.countP_append, ← hn]
          simp only [List.countP_cons, List.countP_nil, c1, if_true]
        · simp only [pilekeep1_ShiftsAreCounted.l1, rd_get a i hi]
          refine Ev.pos hA (Ev.pos hB (Ev.pos hA (Ev.bind (hW a[i] (List.getElem_mem hi)) (Ev.pos rfl (Ev.pos c1 (Ev.succ ?_))))))
          simp only [pilekeep1_ShiftsAreCounted.j24, hn1, hi1]
          exact hr
      · refine .inl ⟨n, ⟨Nat.le_succ_of_le hle, ?_⟩, fun r hr => Ev.succ ?_⟩
        · rw [List.take_succ_eq_append_getElem hi, List.countP_append, ← hn]
          simp [List.countP_cons, c1]
        · simp only [pilekeep1_ShiftsAreCounted.l1, rd_get a i hi]
          refine Ev.pos hA (Ev.pos hB (Ev.pos hA (Ev.bind (hW a[i] (List.getElem_mem hi)) (Ev.pos rfl (Ev.neg c1 (Ev.succ ?_))))))
          simp only [pilekeep1_ShiftsAreCounted.j24, hi1]
          exact hr)
    (fun n ⟨_, hn⟩ => ⟨true, rfl, Ev.succ (by
      rw [List.take_length] at hn
      simp only [pilekeep1_ShiftsAreCounted.l1]
      rw [hww]
      exact Ev.neg (Int.lt_irrefl _) (Ev.bind u1 (Ev.pos rfl (Ev.pos (by rw [hn]) (Ev.pos hT (Ev.pos hU hR))))))⟩) 0 0 (Nat.zero_le _) ⟨Nat.le_refl _, rfl⟩
  exact hr
theorem SAC_l0 (L : List (Int × ByteArray)) (a : List Int) (w0 w1 : Int) (C : List (ByteArray × Int × Int)) (hC : C.length ≤ 1000) (hp1 : ∀ c ∈ C, 0 ≤ c.2.1) (hp2 : ∀ c ∈ C, 0 ≤ c.2.2) (N T : Int) (hN : (C.map fun c => c.2.1).sum = N) (hT : (C.map fun c => c.2.2).sum = T) (hN2 : N ≤ 1000000000000000) (hT2 : T ≤ 1000000000000000)
    (hM : Ev (fun k => pilekeep1_ShiftsAreCounted.l1 k a L N T w0 w1 0 0) true) : Ev (fun k => pilekeep1_ShiftsAreCounted.l0 k a L 0 0 C (C.length : Int) 0 w0 w1) true := by
  obtain ⟨r, rfl, hr⟩ := loop C (fun k i (z : Int × Int) => pilekeep1_ShiftsAreCounted.l0 k a L z.1 z.2 C (C.length : Int) i w0 w1) (fun i z => z.1 = ((C.take i).map fun c => c.2.1).sum ∧ z.2 = ((C.take i).map fun c => c.2.2).sum) (fun r => r = true)
    (fun i z hi hz => .inl ⟨(((C.take (i + 1)).map fun c => c.2.1).sum, ((C.take (i + 1)).map fun c => c.2.2).sum), ⟨rfl, rfl⟩, fun r hr => Ev.succ (by
      have hA : (i : Int) < (C.length : Int) := Int.ofNat_lt.2 hi
      have hB : 0 ≤ (i : Int) := Int.natCast_nonneg i
      have w1' : wrap64 (z.1 + C[i].2.1) = ((C.take (i + 1)).map fun c => c.2.1).sum := by
        have b1 := take_sum_le (fun c => c.2.1) C hp1 (i + 1)
        have b2 := sum_take (fun c => c.2.1) C i hi
        rw [hN] at b1
        rw [hz.1, ← b2]
        exact wrap_id (by omega) (by omega)
      have w2' : wrap64 (z.2 + C[i].2.2) = ((C.take (i + 1)).map fun c => c.2.2).sum := by
        have b3 := take_sum_le (fun c => c.2.2) C hp2 (i + 1)
        have b4 := sum_take (fun c => c.2.2) C i hi
        rw [hT] at b3
        rw [hz.2, ← b4]
        exact wrap_id (by omega) (by omega)
      simp only [pilekeep1_ShiftsAreCounted.l0, rdE_get e_SII C i hi, wrap_succ (show i ≤ 1000000000000000 by omega)]
      refine Ev.pos hA (Ev.pos hB (Ev.pos hA ?_))
      rw [w1', w2']
      exact hr)⟩)
    (fun z hz => ⟨true, rfl, Ev.succ (by
      rw [List.take_length] at hz
      simp only [pilekeep1_ShiftsAreCounted.l0]
      refine Ev.neg (Int.lt_irrefl _) ?_
      rw [hz.1, hz.2, hN, hT]
      exact hM)⟩) 0 (0, 0) (Nat.zero_le _) ⟨rfl, rfl⟩
  exact hr
theorem ShiftsAreCounted (l : List Int) (hl : l.length ≤ 140737488351232) : ∃ k, pilekeep1_ShiftsAreCounted.f k l = some true := by
  obtain ⟨a, w0, w1, s1, e1, q1, q2, q3, q4, q5, q6⟩ := RightTimes_spec l hl 6 0 0 (by omega) (by omega) (by omega)
  obtain ⟨L, s2, e2, hL, p1, p2⟩ := StreamShifts l hl s1 (by omega) (by omega)
  obtain ⟨v, v1, v2, v3⟩ := Shifts_both L hL
  have h50 := hL.1
  have hR : Ev (fun k => (pilekeep1_ready.f k).bind fun r => Option.some r) true := Ev.bind ready_ev (Ev.now _)
  unfold pilekeep1_ShiftsAreCounted.f pilemake_Stream_RightTimes.f
  refine (Ev.bind e1 (Ev.bind e2 (Ev.bind v2 ?_))).ex
  by_cases c : v = 0
  · subst c
    have hok := v3 rfl
    have hV := VT.of q2
    have hw := hV.w
    have hc := hV.check
    obtain ⟨o, o7, hI, hJ, h1⟩ := Longs2_loop L hL hok w0 w1 hw L.length 0 [] [] (by omega) ⟨by simp, by simp, by simp, by simp, by simp, fun x => by rw [mget_not 0 [] x (by simp)]; omega, fun x => by rw [mget_not 0 [] x (by simp)]; omega⟩ ⟨by simp, by simp; have := clamp_lo w0 w1 (endV L 0) hw.2.1; omega, fun j h hj => absurd hj (by omega)⟩
    have h1' : Ev (fun k => rate_longs.f k L w0 w1) o := h1
    obtain ⟨U, u1, u2, u3⟩ := Fairest2 L h50 v1 w0 w1 hw o o7 hI h1'
    have hsum : (o.map Prod.snd).sum ≤ w1 - w0 := by
      have := hJ.sum
      have e : clampV w0 w1 (endV L L.length) = w1 := by
        unfold endV clampV
        rw [dif_neg (by omega)]
        repeat' split
        all_goals omega
      rw [e] at this
      exact this
    have hlen := hI.len
    have hC := CountsP_l0 L (by omega) a (by omega) o o7 hI
    have hc2 : Ev (fun k => rate_Counts.f k a w0 w1 L) (countsV L a o, 0) := Ev.bind hc (Ev.pos rfl (Ev.bind v1 (Ev.pos rfl (Ev.bind h1' hC))))
    have hCl : (countsV L a o).length ≤ 50 := by
      unfold countsV
      rw [List.length_map, sortB_len]
      simp
      omega
    have hS1 : ((countsV L a o).map fun c => c.2.1).sum = (a.countP (hasV L) : Int) := by
      unfold countsV
      rw [List.map_map, ← sum_cnt L (o.map Prod.fst) hI.nd a fun t ht => who_in L w0 w1 hw.2.2 o hJ t (hV.b t ht).1 (hV.b t ht).2]
      exact sum_perm ((sortB_perm (o.map Prod.fst)).map _)
    have hS2 : ((countsV L a o).map fun c => c.2.2).sum = (o.map Prod.snd).sum := by
      unfold countsV
      rw [List.map_map, ← mget_keys 0 o hI.nd]
      exact sum_perm ((sortB_perm (o.map Prod.fst)).map _)
    have hp1 : ∀ c ∈ countsV L a o, 0 ≤ c.2.1 := fun c hc => by
      unfold countsV at hc
      obtain ⟨x, _, rfl⟩ := List.mem_map.1 hc
      exact Int.natCast_nonneg _
    have hp2 : ∀ c ∈ countsV L a o, 0 ≤ c.2.2 := fun c hc => by
      unfold countsV at hc
      obtain ⟨x, _, rfl⟩ := List.mem_map.1 hc
      exact hI.lo x
    obtain ⟨T, hT⟩ : ∃ T, T = (o.map Prod.snd).sum := ⟨_, rfl⟩
    obtain ⟨C, hCC⟩ : ∃ C, C = countsV L a o := ⟨_, rfl⟩
    rw [← hT] at hS2 hsum u2 u3
    rw [← hCC] at hc2 hCl hS1 hS2 hp1 hp2
    have hcnt : a.countP (hasV L) ≤ 13 := Nat.le_trans List.countP_le_length q1
    refine Ev.pos rfl (Ev.bind hc2 (Ev.pos rfl ?_))
    have hM := SAC_l1 L h50 v1 a (by omega) w0 w1 hw hV.b T U hsum u2 u1
    have hT9 : T ≤ 1000000000000000 := by clear hS1 hS2 hcnt; omega
    exact SAC_l0 L a w0 w1 C (by omega) hp1 hp2 _ T hS1 hS2 (by clear hS1 hS2; omega) hT9 hM
  · exact Ev.neg c hR
end Go.EV.Pure
