/- The plain law: the Lean functions answer true for every list. -/
import Derived.Test.YtmfelmknijfngaaDoorXCleanHasNothingShort
import Derived.KernelRfl
set_option linter.unusedVariables false
set_option linter.unusedSimpArgs false
/-! Plain laws that all statements use: numbers that don't wrap, functions with fuel, loops over lists, the stream's draws. -/
namespace Go.EV.Pure
open Go Go.EV Go.RowKit
theorem wrap_id {e : Int} (h1 : -9223372036854775808 ≤ e) (h2 : e ≤ 9223372036854775807) : wrap64 e = e := by
  unfold wrap64
  omega
theorem tmod_pos {a n : Int} (h : 0 ≤ a) : a.tmod n = a % n := Int.tmod_eq_emod_of_nonneg h
theorem tdiv_pos {a n : Int} (h : 0 ≤ a) : a.tdiv n = a / n := Int.tdiv_eq_ediv_of_nonneg h
theorem mx_eq (a b : Int) : mx a b = if a < b then b else a := rfl
theorem mn_eq (a b : Int) : mn a b = if b < a then b else a := rfl
theorem rd_get (l : List Int) (i : Nat) (h : i < l.length) : rd l (i : Int) = l[i] := by
  simp [rd, List.getD, List.getElem?_eq_getElem h]
theorem rdE_get {α : Type} (E : Enc α) (l : List α) (i : Nat) (h : i < l.length) : rdE E l (i : Int) = l[i] := by
  simp [rdE, List.getD, List.getElem?_eq_getElem h]
theorem rd_mem (l : List Int) (i : Int) (h0 : 0 ≤ i) (h1 : i < l.length) : rd l i ∈ l := by
  have h : i.toNat < l.length := by omega
  have : rd l i = l[i.toNat] := by simp [rd, List.getD, List.getElem?_eq_getElem h]
  rw [this]
  exact List.getElem_mem h
theorem rdE_mem {α : Type} (E : Enc α) (l : List α) (i : Int) (h0 : 0 ≤ i) (h1 : i < l.length) : rdE E l i ∈ l := by
  have h : i.toNat < l.length := by omega
  have : rdE E l i = l[i.toNat] := by simp [rdE, List.getD, List.getElem?_eq_getElem h]
  rw [this]
  exact List.getElem_mem h
theorem wrap_succ {i : Nat} (h : i ≤ 1000000000000000) : wrap64 ((i : Int) + 1) = ((i + 1 : Nat) : Int) := by rw [wrap_id (by omega) (by omega)]; omega

/-- From some fuel on the function answers v. -/
def Ev {α : Type} (f : Nat → Option α) (v : α) : Prop := ∃ K, ∀ k, K ≤ k → f k = some v
section
variable {α β : Type}
theorem Ev.now (v : α) : Ev (fun _ => some v) v := ⟨0, fun _ _ => rfl⟩
theorem Ev.of {f : Nat → Option α} {v : α} (h : ∀ k, f k = some v) : Ev f v := ⟨0, fun k _ => h k⟩
theorem Ev.from {f : Nat → Option α} {v : α} (n : Nat) (h : ∀ k, f (k + n) = some v) : Ev f v := ⟨n, fun k hk => by
  obtain ⟨m, rfl⟩ : ∃ m, k = m + n := ⟨k - n, by omega⟩
  exact h m⟩
theorem Ev.bind {f : Nat → Option α} {a : α} {g : Nat → α → Option β} {v : β} (h : Ev f a) (h2 : Ev (fun k => g k a) v) : Ev (fun k => (f k).bind (g k)) v := by
  obtain ⟨K, h⟩ := h
  obtain ⟨K2, h2⟩ := h2
  exact ⟨max K K2, fun k hk => by show (f k).bind (g k) = some v; rw [h k (by omega)]; exact h2 k (by omega)⟩
theorem Ev.step {g f : Nat → Option α} {v : α} (h : ∀ k, g (k + 1) = f k) (h2 : Ev f v) : Ev g v := by
  obtain ⟨K, h2⟩ := h2
  exact ⟨K + 1, fun k hk => by
    obtain ⟨m, rfl⟩ : ∃ m, k = m + 1 := ⟨k - 1, by omega⟩
    rw [h m]; exact h2 m (by omega)⟩
theorem Ev.succ {g : Nat → Option α} {v : α} (h : Ev (fun k => g (k + 1)) v) : Ev g v := Ev.step (fun _ => rfl) h
theorem Ev.ex {f : Nat → Option α} {v : α} (h : Ev f v) : ∃ k, f k = some v := let ⟨K, h⟩ := h; ⟨K, h K (Nat.le_refl _)⟩
theorem Ev.pos {p : Prop} [Decidable p] {f g : Nat → Option α} {v : α} (c : p) (h1 : Ev f v) : Ev (fun k => if p then f k else g k) v := by simp only [if_pos c]; exact h1
theorem Ev.neg {p : Prop} [Decidable p] {f g : Nat → Option α} {v : α} (c : ¬ p) (h1 : Ev g v) : Ev (fun k => if p then f k else g k) v := by simp only [if_neg c]; exact h1

/-- A loop over a list by its index: what holds of its state carries over each round, or the round is the last one. -/
theorem loop {σ ρ : Type} (l : List α) (F : Nat → Int → σ → Option ρ) (I : Nat → σ → Prop) (post : ρ → Prop)
    (hstep : ∀ (i : Nat) (s : σ), i < l.length → I i s → (∃ s', I (i + 1) s' ∧ ∀ v, Ev (fun k => F k ((i + 1 : Nat) : Int) s') v → Ev (fun k => F k (i : Int) s) v) ∨ ∃ v, post v ∧ Ev (fun k => F k (i : Int) s) v)
    (hend : ∀ s, I l.length s → ∃ v, post v ∧ Ev (fun k => F k (l.length : Int) s) v) :
    ∀ (i : Nat) (s : σ), i ≤ l.length → I i s → ∃ v, post v ∧ Ev (fun k => F k (i : Int) s) v := by
  intro i
  generalize hd : l.length - i = d
  induction d generalizing i with
  | zero =>
    intro s hi hI
    obtain rfl : i = l.length := by omega
    exact hend s hI
  | succ d ih =>
    intro s hi hI
    rcases hstep i s (by omega) hI with ⟨s', h1, h2⟩ | h
    · obtain ⟨v, h3, h4⟩ := ih (i + 1) (by omega) s' (by omega) h1
      exact ⟨v, h3, h2 v h4⟩
    · exact h
end
end Go.EV.Pure
namespace Go.EV.Pure
open Go Go.EV Go.RowKit
theorem Below_j (x : Int) : Ev (fun k => pilemake_Below.j6 k x) x := Ev.from 1 fun k => rfl
theorem Below_spec (x n : Int) (hn : n ≤ 9223372036854775807) : ∃ r, Ev (fun k => pilemake_Below.f k x n) r ∧ 0 ≤ r ∧ (1 ≤ n → r < n) ∧ (n < 1 → r = 0) := by
  unfold pilemake_Below.f
  by_cases h : n < 1
  · simp only [if_pos h]
    exact ⟨0, Ev.now _, by omega, by omega, fun _ => rfl⟩
  · simp only [if_neg h, if_neg (show ¬ n = 0 by omega)]
    have hm := Int.natAbs_tmod x n
    have hm2 := Nat.mod_lt x.natAbs (show n.natAbs > 0 by omega)
    have h1 : x.tmod n < n := by omega
    have h2 : -n < x.tmod n := by omega
    by_cases h3 : x.tmod n < 0
    · simp only [if_pos h3]
      refine ⟨_, Below_j _, ?_, ?_, ?_⟩ <;> rw [wrap_id (by omega) (by omega)] <;> omega
    · simp only [if_neg h3]
      exact ⟨_, Below_j _, by omega, by omega, by omega⟩
theorem Next_spec (l : List Int) (s n : Int) (h0 : 0 ≤ s) (h1 : s ≤ 4611686018427387904) (hn : n ≤ 9223372036854775807) (hl : l.length ≤ 140737488351232) :
    ∃ r, Ev (fun k => pilemake_Stream_Next.f k l s n) (r, l, s + 1) ∧ 0 ≤ r ∧ (1 ≤ n → r < n) := by
  unfold pilemake_Stream_Next.f
  have hs : wrap64 (s + 1) = s + 1 := wrap_id (by omega) (by omega)
  have hs2 : wrap64 (s + 1 - 1) = s := by rw [wrap_id (by omega) (by omega)]; omega
  simp only [hs, hs2]
  by_cases h : (l.length : Int) = 0
  · simp only [if_pos h]
    obtain ⟨r, hr, r0, r1, _⟩ := Below_spec (wrap64 ((s + 1) * 7919)) n hn
    exact ⟨r, Ev.bind hr (Ev.now _), r0, r1⟩
  · have e : Int.tmod s (l.length : Int) = s % (l.length : Int) := Int.tmod_eq_emod_of_nonneg h0
    have m0 : 0 ≤ s % (l.length : Int) := Int.emod_nonneg _ h
    have m1 : s % (l.length : Int) < (l.length : Int) := Int.emod_lt_of_pos _ (by omega)
    simp only [if_neg h, e, if_pos m0, if_pos m1]
    obtain ⟨a, ha, _⟩ := Below_spec (rd l (s % (l.length : Int))) 1073741824 (by omega)
    obtain ⟨r, hr, r0, r1, _⟩ := Below_spec (wrap64 (a + wrap64 (wrap64 (Int.tdiv s (l.length : Int)) * wrap64 (7919 + s % (l.length : Int))))) n hn
    exact ⟨r, Ev.bind ha (Ev.bind hr (Ev.now _)), r0, r1⟩
theorem Pick_spec (l : List Int) (s : Int) (m : List Int) (h0 : 0 ≤ s) (h1 : s ≤ 4611686018427387904) (hl : l.length ≤ 140737488351232) (hm : 1 ≤ m.length) (hm2 : m.length ≤ 1000) :
    ∃ r, Ev (fun k => pilemake_Stream_Pick.f k l s m) (r, l, s + 1) ∧ r ∈ m := by
  obtain ⟨r, hr, r0, r1⟩ := Next_spec l s (m.length : Int) h0 h1 (by omega) hl
  have r2 := r1 (by omega)
  exact ⟨rd m r, Ev.bind hr (Ev.pos r0 (Ev.pos r2 (Ev.now _))), rd_mem m r r0 r2⟩
theorem Flip_spec (l : List Int) (s n : Int) (h0 : 0 ≤ s) (h1 : s ≤ 4611686018427387904) (hn : n ≤ 9223372036854775807) (hl : l.length ≤ 140737488351232) :
    ∃ b, Ev (fun k => pilemake_Stream_Flip.f k l s n) (b, l, s + 1) := by
  obtain ⟨r, hr, _⟩ := Next_spec l s n h0 h1 hn hl
  exact ⟨decide (r = 0), Ev.bind hr (Ev.now _)⟩
end Go.EV.Pure
namespace Go.EV.Pure
open Go Go.EV Go.RowKit
set_option maxRecDepth 100000
theorem ready_ev : Ev (fun k => pilekeep1_ready.f k) true := Ev.from 300 fun k => (by kernel_rfl : pilekeep1_ready.f (k + 300) = some true)
end Go.EV.Pure
namespace Go.EV.Pure
open Go Go.EV Go.RowKit
set_option linter.unusedSimpArgs false
/-! Marks and gaps, cleaned. -/
/-- Gaps (at odd places) are p, marks (at even places) are q. -/
def MG (p q : Int → Prop) (L : List Int) : Prop := ∀ (i : Nat) (h : i < L.length), (i % 2 = 1 → p L[i]) ∧ (i % 2 = 0 → q L[i])
theorem MG.mono {p q p' q' : Int → Prop} {L : List Int} (h : MG p q L) (hp : ∀ x, p x → p' x) (hq : ∀ x, q x → q' x) : MG p' q' L := fun i hi => ⟨fun e => hp _ ((h i hi).1 e), fun e => hq _ ((h i hi).2 e)⟩
theorem MG.all {p : Int → Prop} {L : List Int} (h : MG p p L) : ∀ x ∈ L, p x := fun x hx => by
  obtain ⟨i, hi, rfl⟩ := List.getElem_of_mem hx
  rcases (by omega : i % 2 = 1 ∨ i % 2 = 0) with e | e
  · exact (h i hi).1 e
  · exact (h i hi).2 e
theorem MG.of {p : Int → Prop} {L : List Int} (h : ∀ x ∈ L, p x) : MG p p L := fun i hi => ⟨fun _ => h _ (List.getElem_mem hi), fun _ => h _ (List.getElem_mem hi)⟩
theorem MG.drop2 {p q : Int → Prop} {L : List Int} (h : MG p q L) : MG p q (L.drop 2) := fun i hi => by
  have hi' : 2 + i < L.length := by simp at hi; omega
  have := h (2 + i) hi'
  rw [List.getElem_drop]
  exact ⟨fun e => this.1 (by omega), fun e => this.2 (by omega)⟩
theorem MG.take {p q : Int → Prop} {L : List Int} (h : MG p q L) (n : Nat) : MG p q (L.take n) := fun i hi => by
  have hi' : i < L.length := by simp at hi; omega
  rw [List.getElem_take]
  exact h i hi'
theorem MG.app {p q : Int → Prop} {L : List Int} (h : MG p q L) (ho : L.length % 2 = 1) {g m : Int} (hg : p g) (hm : q m) : MG p q (L ++ [g, m]) := fun i hi => by
  by_cases c : i < L.length
  · rw [List.getElem_append_left c]; exact h i c
  · rw [List.getElem_append_right (by omega)]
    simp at hi
    rcases (by omega : i = L.length ∨ i = L.length + 1) with rfl | rfl
    · simp only [Nat.sub_self, List.getElem_cons_zero]
      exact ⟨fun _ => hg, fun e => by omega⟩
    · simp only [Nat.add_sub_cancel_left, List.getElem_cons_succ, List.getElem_cons_zero]
      exact ⟨fun e => by omega, fun _ => hm⟩
theorem MG.set {p q : Int → Prop} {L : List Int} (h : MG p q L) (n : Nat) {x : Int} (hp : n % 2 = 1 → p x) (hq : n % 2 = 0 → q x) : MG p q (L.set n x) := fun i hi => by
  by_cases c : n = i
  · subst c
    rw [List.getElem_set_self]
    exact ⟨hp, hq⟩
  · rw [List.getElem_set_ne c]
    exact h i (by simpa using hi)
theorem MG.snoc {p q : Int → Prop} {L : List Int} (h : MG p q L) {x : Int} (hp : L.length % 2 = 1 → p x) (hq : L.length % 2 = 0 → q x) : MG p q (L ++ [x]) := fun i hi => by
  by_cases c : i < L.length
  · rw [List.getElem_append_left c]; exact h i c
  · have hi' : i = L.length := by simp at hi; omega
    subst hi'
    have e : (L ++ [x])[L.length] = x := by simp
    rw [e]
    exact ⟨hp, hq⟩
theorem sum_nonneg {L : List Int} (h : ∀ x ∈ L, 0 ≤ x) : 0 ≤ L.sum := by
  induction L with
  | nil => simp
  | cons a L ih =>
    have := h a (by simp)
    have := ih fun x hx => h x (by simp [hx])
    simp; omega
theorem le_sum {L : List Int} (h : ∀ x ∈ L, 0 ≤ x) : ∀ x ∈ L, x ≤ L.sum := by
  induction L with
  | nil => intro x hx; cases hx
  | cons a L ih =>
    intro x hx
    have h0 := h a (by simp)
    have h1 := sum_nonneg fun x hx => h x (List.mem_cons_of_mem a hx)
    rcases List.mem_cons.1 hx with rfl | hx
    · simp; omega
    · have := ih (fun x hx => h x (by simp [hx])) x hx
      simp; omega
theorem sum_take_le {L : List Int} (h : ∀ x ∈ L, 0 ≤ x) (n : Nat) : (L.take n).sum ≤ L.sum := by
  have e : L.sum = (L.take n).sum + (L.drop n).sum := by rw [← List.sum_append, List.take_append_drop]
  have := sum_nonneg (L := L.drop n) fun x hx => h x (List.mem_of_mem_drop hx)
  omega
theorem sum_drop_le {L : List Int} (h : ∀ x ∈ L, 0 ≤ x) (n : Nat) : (L.drop n).sum ≤ L.sum := by
  have e : L.sum = (L.take n).sum + (L.drop n).sum := by rw [← List.sum_append, List.take_append_drop]
  have := sum_nonneg (L := L.take n) fun x hx => h x (List.mem_of_mem_take hx)
  omega
theorem sum_set' (L : List Int) (x : Int) : ∀ (n : Nat) (h : n < L.length), (L.set n x).sum = L.sum - L[n] + x := by
  induction L with
  | nil => intro n h; simp at h
  | cons a L ih =>
    intro n h
    cases n with
    | zero => simp; omega
    | succ n =>
      have := ih n (by simpa using h)
      simp only [List.set_cons_succ, List.sum_cons, List.getElem_cons_succ]
      omega
theorem sum_take2 (L : List Int) (i : Nat) (h : i + 1 < L.length) : (L.take (i + 2)).sum = (L.take i).sum + L[i] + L[i + 1] := by
  have e1 : L.take (i + 2) = L.take (i + 1) ++ [L[i + 1]] := List.take_succ_eq_append_getElem (i := i + 1) h
  have e2 : L.take (i + 1) = L.take i ++ [L[i]] := List.take_succ_eq_append_getElem (i := i) (by omega)
  rw [e1, e2]
  simp only [List.sum_append, List.sum_singleton]
/-! ### the gaps that are shorter -/
theorem closed_run (l : List Int) (least : Int) (hl : l.length ≤ 20000) (ho : l.length % 2 = 1) (h1 : ∀ x ∈ l, 1 ≤ x) (hs : l.sum ≤ 100000) (hle : 1 ≤ least) (d : Nat) : ∀ (i : Nat) (o : List Int), i + 2 * d = l.length → i % 2 = 1 →
    MG (fun x => least ≤ x) (fun x => 1 ≤ x) o → o.length % 2 = 1 → o.length ≤ i → o.sum = (l.take i).sum →
    ∃ v, Ev (fun k => key_closed.l0 k l least (i : Int) o) v ∧ MG (fun x => least ≤ x) (fun x => 1 ≤ x) v ∧ v.length % 2 = 1 ∧ v.length ≤ l.length ∧ v.sum = l.sum := by
  have h0 : ∀ x ∈ l, 0 ≤ x := fun x hx => by have := h1 x hx; omega
  induction d with
  | zero =>
    intro i o hi hp hm hodd hlen hsum
    obtain rfl : i = l.length := by omega
    refine ⟨o, Ev.step (f := fun _ => some _) (fun k => ?_) (Ev.now _), hm, hodd, hlen, by rw [hsum, List.take_length]⟩
    simp only [key_closed.l0]
    rw [if_neg (by omega)]
  | succ d ih =>
    intro i o hi hp hm hodd hlen hsum
    have hi1 : i + 1 < l.length := by omega
    have hi0 : i < l.length := by omega
    have r0 := rd_get l i hi0
    have r1 : rd l ((i + 1 : Nat) : Int) = l[i + 1] := rd_get l (i + 1) hi1
    have w1 : wrap64 ((i : Int) + 1) = ((i + 1 : Nat) : Int) := wrap_succ (by omega)
    have w2 : wrap64 ((i : Int) + 2) = ((i + 2 : Nat) : Int) := by rw [wrap_id (by omega) (by omega)]; omega
    have x0 := h1 _ (List.getElem_mem hi0)
    have x1 := h1 _ (List.getElem_mem hi1)
    have s2 := sum_take2 l i hi1
    have st := sum_take_le h0 (i + 2)
    have hj : ∀ o', (∃ v, Ev (fun k => key_closed.l0 k l least ((i + 2 : Nat) : Int) o') v ∧ MG (fun x => least ≤ x) (fun x => 1 ≤ x) v ∧ v.length % 2 = 1 ∧ v.length ≤ l.length ∧ v.sum = l.sum) →
        ∃ v, Ev (fun k => key_closed.j4 k l least (i : Int) o') v ∧ MG (fun x => least ≤ x) (fun x => 1 ≤ x) v ∧ v.length % 2 = 1 ∧ v.length ≤ l.length ∧ v.sum = l.sum := fun o' ⟨v, e, r⟩ =>
      ⟨v, Ev.step (fun k => by simp only [key_closed.j4, w2]) e, r⟩
    by_cases c : l[i] < least
    · have hn : o.length - 1 < o.length := by omega
      have wn : wrap64 ((o.length : Int) - 1) = ((o.length - 1 : Nat) : Int) := by rw [wrap_id (by omega) (by omega)]; omega
      have rn := rd_get o (o.length - 1) hn
      have hq : 1 ≤ o[o.length - 1] := (hm _ hn).2 (by omega)
      have hoa : ∀ x ∈ o, 0 ≤ x := fun x hx => by
        obtain ⟨j, hj, rfl⟩ := List.getElem_of_mem hx
        rcases (by omega : j % 2 = 1 ∨ j % 2 = 0) with e | e
        · have := (hm j hj).1 e; omega
        · have := (hm j hj).2 e; omega
      have hb := le_sum hoa _ (List.getElem_mem hn)
      obtain ⟨v, e, r⟩ := hj _ (ih (i + 2) (o.set (o.length - 1) (o[o.length - 1] + (l[i] + l[i + 1]))) (by omega) (by omega) (hm.set _ (fun e => by omega) (fun _ => by omega)) (by simpa using hodd) (by simp; omega) (by
        rw [sum_set' o _ _ hn, s2, hsum]; omega))
      refine ⟨v, Ev.succ ?_, r⟩
      simp only [key_closed.l0, r0, w1, r1, wn, rn, Int.toNat_natCast, wrap_id (e := l[i] + l[i + 1]) (by omega) (by omega), wrap_id (e := o[o.length - 1] + (l[i] + l[i + 1])) (by omega) (by omega)]
      exact Ev.pos (by omega) (Ev.pos (by omega) (Ev.pos (by omega) (Ev.pos c (Ev.pos (by omega) (Ev.pos (by omega) (Ev.pos (by omega) (Ev.pos (by omega) (Ev.pos (by omega) (Ev.pos (by omega) (Ev.pos (by omega) (Ev.pos (by omega) e)))))))))))
    · obtain ⟨v, e, r⟩ := hj _ (ih (i + 2) (o ++ [l[i], l[i + 1]]) (by omega) (by omega) (hm.app hodd (by omega) x1) (by simp; omega) (by simp; omega) (by rw [s2, ← hsum]; simp; omega))
      refine ⟨v, Ev.succ ?_, r⟩
      simp only [key_closed.l0, r0, w1, r1]
      exact Ev.pos (by omega) (Ev.pos (by omega) (Ev.pos (by omega) (Ev.neg c (Ev.pos (by omega) (Ev.pos (by omega) (Ev.pos (by omega) (Ev.pos (by omega) (Ev.pos (by simp; omega) e))))))))
theorem closed_spec (l : List Int) (least : Int) (hl : l.length ≤ 20000) (ho : l.length % 2 = 1) (h1 : ∀ x ∈ l, 1 ≤ x) (hs : l.sum ≤ 100000) (hle : 1 ≤ least) :
    ∃ v, Ev (fun k => key_closed.f k l least) v ∧ MG (fun x => least ≤ x) (fun x => 1 ≤ x) v ∧ v.length % 2 = 1 ∧ v.length ≤ l.length ∧ v.sum = l.sum := by
  have r0 : rd l 0 = l[0]'(by omega) := rd_get l 0 (by omega)
  have e0 : l.take 1 = [l[0]'(by omega)] := by
    have := List.take_succ_eq_append_getElem (l := l) (i := 0) (by omega)
    simpa using this
  obtain ⟨v, e, r⟩ := closed_run l least hl ho h1 hs hle ((l.length - 1) / 2) 1 [l[0]'(by omega)] (by omega) (by omega) (fun i hi => by
    obtain rfl : i = 0 := by simpa using hi
    exact ⟨fun e => by omega, fun _ => h1 _ (List.getElem_mem _)⟩) (by simp) (by simp) (by rw [e0])
  refine ⟨v, ?_, r⟩
  unfold key_closed.f
  simp only [r0]
  exact Ev.pos (by omega) e
/-! ### the marks that are shorter -/
theorem cleaned_l2 (L : List Int) (least : Int) (hl : L.length ≤ 20000) (ho : L.length % 2 = 1) (hm : MG (fun x => least ≤ x) (fun x => 1 ≤ x) L) (hs : L.sum ≤ 100000) (hle : 1 ≤ least) (hlast : least ≤ L[L.length - 1]'(by omega)) (d : Nat) :
    ∀ (i : Nat) (o : List Int) (x : Int), i + 2 * d = L.length → i % 2 = 1 → (hx : i - 1 < L.length) → x = L[i - 1] → MG (fun x => least ≤ x) (fun x => least ≤ x) o → o.length % 2 = 0 → o.length + 1 ≤ i → (o.length = 0 → least ≤ x) → o.sum + x = (L.take i).sum →
    ∃ v, Ev (fun k => key_cleaned.l2 k least L (i : Int) (o ++ [x])) v ∧ (∀ y ∈ v, least ≤ y) ∧ v.length % 2 = 1 ∧ v.length ≤ L.length ∧ v.sum = L.sum := by
  have hall : ∀ x ∈ L, 1 ≤ x := (hm.mono (p' := fun x => 1 ≤ x) (q' := fun x => 1 ≤ x) (fun x hx => by omega) (fun x hx => hx)).all
  have h0 : ∀ x ∈ L, 0 ≤ x := fun x hx => by have := hall x hx; omega
  induction d with
  | zero =>
    intro i o x hi hp hx hxe hmo hodd hlen hfirst hsum
    have hxl : least ≤ x := by
      rw [hxe]
      have : i - 1 = L.length - 1 := by omega
      simp only [this]
      exact hlast
    refine ⟨o ++ [x], Ev.step (f := fun _ => some _) (fun k => ?_) (Ev.now _), fun y hy => ?_, by simp; omega, by simp; omega, ?_⟩
    · simp only [key_cleaned.l2]
      rw [if_neg (by omega)]
    · rcases List.mem_append.1 hy with hy | hy
      · exact hmo.all y hy
      · obtain rfl : y = x := by simpa using hy
        exact hxl
    · have : i = L.length := by omega
      rw [List.sum_append, List.sum_singleton, hsum, this, List.take_length]
  | succ d ih =>
    intro i o x hi hp hx hxe hmo hodd hlen hfirst hsum
    have hi1 : i + 1 < L.length := by omega
    have hi0 : i < L.length := by omega
    have r0 := rd_get L i hi0
    have r1 : rd L ((i + 1 : Nat) : Int) = L[i + 1] := rd_get L (i + 1) hi1
    have rm : rd L ((i - 1 : Nat) : Int) = L[i - 1] := rd_get L (i - 1) hx
    have w1 : wrap64 ((i : Int) + 1) = ((i + 1 : Nat) : Int) := wrap_succ (by omega)
    have w2 : wrap64 ((i : Int) + 2) = ((i + 2 : Nat) : Int) := by rw [wrap_id (by omega) (by omega)]; omega
    have wm : wrap64 ((i : Int) - 1) = ((i - 1 : Nat) : Int) := by rw [wrap_id (by omega) (by omega)]; omega
    have wn : wrap64 (((o ++ [x]).length : Int) - 1) = (o.length : Int) := by rw [wrap_id (by simp <;> omega) (by simp <;> omega)]; simp
    have rn : rd (o ++ [x]) (o.length : Int) = x := by rw [rd_get _ _ (by simp)]; simp
    have x0 := hall _ (List.getElem_mem hi0)
    have x1 := hall _ (List.getElem_mem hi1)
    have xm := hall _ (List.getElem_mem hx)
    have s2 := sum_take2 L i hi1
    have st := sum_take_le h0 (i + 2)
    have hg : least ≤ L[i] := (hm i hi0).1 hp
    have hoa : ∀ y ∈ o, 0 ≤ y := fun y hy => by have := hmo.all y hy; omega
    have happ : (least ≤ x) → ∃ v, Ev (fun k => key_cleaned.l2 k least L ((i + 2 : Nat) : Int) ((o ++ [x]) ++ [L[i], L[i + 1]])) v ∧ (∀ y ∈ v, least ≤ y) ∧ v.length % 2 = 1 ∧ v.length ≤ L.length ∧ v.sum = L.sum := fun hxl => by
      have := ih (i + 2) (o ++ [x] ++ [L[i]]) L[i + 1] (by omega) (by omega) (by omega) rfl ((hmo.snoc (fun e => by omega) (fun _ => hxl)).snoc (fun _ => hg) (fun e => by simp at e; omega)) (by simp; omega) (by simp; omega) (fun e => by simp at e) (by simp at hsum ⊢; omega)
      simpa using this
    have hend : ∀ {v : List Int}, Ev (fun k => key_cleaned.l2 k least L ((i + 2 : Nat) : Int) ((o ++ [x]) ++ [L[i], L[i + 1]])) v → Ev (fun k => if 0 ≤ (i : Int) then (if (i : Int) < (L.length : Int) then (if 0 ≤ ((i + 1 : Nat) : Int) then (if ((i + 1 : Nat) : Int) < (L.length : Int) then (if (o ++ [x]).length + [L[i], L[i + 1]].length ≤ 549755813888 then key_cleaned.l2 k least L ((i + 2 : Nat) : Int) ((o ++ [x]) ++ [L[i], L[i + 1]]) else Option.none) else Option.none) else Option.none) else Option.none) else Option.none) v := fun e =>
      Ev.pos (by omega) (Ev.pos (by omega) (Ev.pos (by omega) (Ev.pos (by omega) (Ev.pos (by simp; omega) e))))
    by_cases c : x < least
    · have hne : o.length ≠ 0 := fun e => by have := hfirst e; omega
      obtain ⟨n, hn⟩ : ∃ n, o.length = n + 2 := ⟨o.length - 2, by omega⟩
      have tk : (o ++ [x]).take o.length = o := by simp
      have wnn : wrap64 ((o.length : Int) - 1) = ((n + 1 : Nat) : Int) := by rw [wrap_id (by omega) (by omega)]; omega
      have hn1 : n + 1 < o.length := by omega
      have rnn := rd_get o (n + 1) hn1
      have hgap : least ≤ o[n + 1] := (hmo _ hn1).1 (by omega)
      have hb := le_sum hoa _ (List.getElem_mem hn1)
      have hos := sum_nonneg hoa
      obtain ⟨v, e, r⟩ := ih (i + 2) (o.set (n + 1) (o[n + 1] + (L[i - 1] + L[i]))) L[i + 1] (by omega) (by omega) (by omega) rfl (hmo.set _ (fun _ => by omega) (fun _ => by omega)) (by simpa using hodd) (by simp; omega) (fun e => by rw [List.length_set] at e; omega) (by
        have q := sum_set' o (o[n + 1] + (L[i - 1] + L[i])) _ hn1
        omega)
      refine ⟨v, Ev.succ ?_, r⟩
      simp only [key_cleaned.l2, wn, rn, wm, rm, r0, w1, r1, w2, Int.toNat_natCast, tk, wnn, rnn, wrap_id (e := L[i - 1] + L[i]) (by omega) (by omega), wrap_id (e := o[n + 1] + (L[i - 1] + L[i])) (by omega) (by omega)]
      exact Ev.pos (by omega) (Ev.pos (by omega) (Ev.pos (by simp; omega) (Ev.pos c (Ev.pos (by omega) (Ev.pos (by omega) (Ev.pos (by simp; omega) (Ev.pos (by omega) (Ev.pos (by omega) (Ev.pos (by omega) (Ev.pos (by omega) (Ev.pos (by omega) (Ev.pos (by omega) (Ev.pos (by omega) (Ev.pos (by omega) (Ev.pos (by omega) (Ev.pos (by omega) (Ev.pos (by simp; omega) e)))))))))))))))))
    · obtain ⟨v, e, r⟩ := happ (by omega)
      refine ⟨v, Ev.succ ?_, r⟩
      simp only [key_cleaned.l2, wn, rn, r0, w1, r1, w2]
      exact Ev.pos (by omega) (Ev.pos (by omega) (Ev.pos (by simp; omega) (Ev.neg c (hend e))))
theorem take_one (L : List Int) (h : 0 < L.length) : L.take 1 = [L[0]] := by
  have := List.take_succ_eq_append_getElem (l := L) (i := 0) h
  simpa using this
theorem cleaned_go (L : List Int) (least : Int) (hl : L.length ≤ 20000) (ho : L.length % 2 = 1) (hm : MG (fun x => least ≤ x) (fun x => 1 ≤ x) L) (hs : L.sum ≤ 100000) (hle : 1 ≤ least) (hfirst : least ≤ L[0]'(by omega)) (hlast : least ≤ L[L.length - 1]'(by omega)) :
    ∃ v, Ev (fun k => key_cleaned.l2 k least L 1 [rd L 0]) v ∧ (∀ y ∈ v, least ≤ y) ∧ v.length % 2 = 1 ∧ v.length ≤ L.length ∧ v.sum = L.sum := by
  have r0 : rd L 0 = L[0]'(by omega) := rd_get L 0 (by omega)
  have := cleaned_l2 L least hl ho hm hs hle hlast ((L.length - 1) / 2) 1 [] (L[0]'(by omega)) (by omega) (by omega) (by omega) rfl (fun i hi => by simp at hi) rfl (by simp) (fun _ => hfirst) (by rw [take_one L (by omega)]; simp)
  rw [r0]
  exact this
theorem cleaned_l1 (least : Int) (hle : 1 ≤ least) (n : Nat) : ∀ L : List Int, L.length = n → L.length ≤ 20000 → (L = [] ∨ L.length % 2 = 1) → MG (fun x => least ≤ x) (fun x => 1 ≤ x) L → L.sum ≤ 100000 → (∀ h : 0 < L.length, least ≤ L[0]) →
    ∃ v, Ev (fun k => key_cleaned.l1 k least L) v ∧ (v = [] ∨ (∀ y ∈ v, least ≤ y) ∧ v.length % 2 = 1) ∧ v.length ≤ L.length ∧ v.sum ≤ L.sum := by
  induction n using Nat.strongRecOn with
  | _ n ih =>
    intro L hn hl ho hm hs hf
    have hall : ∀ x ∈ L, 1 ≤ x := (hm.mono (p' := fun x => 1 ≤ x) (q' := fun x => 1 ≤ x) (fun x hx => by omega) (fun x hx => hx)).all
    have h0 : ∀ x ∈ L, 0 ≤ x := fun x hx => by have := hall x hx; omega
    rcases ho with rfl | ho
    · refine ⟨[], Ev.step (f := fun _ => some _) (fun k => ?_) (Ev.now _), .inl rfl, by simp, by simp⟩
      simp [key_cleaned.l1]
    · have w1 : wrap64 ((L.length : Int) - 1) = ((L.length - 1 : Nat) : Int) := by rw [wrap_id (by omega) (by omega)]; omega
      have hlt : L.length - 1 < L.length := by omega
      have rl := rd_get L (L.length - 1) hlt
      by_cases c : L[L.length - 1] < least
      · have hmx : mx 0 (wrap64 ((L.length : Int) - 2)) = ((L.length - 2 : Nat) : Int) := by rw [wrap_id (by omega) (by omega), mx_eq]; split <;> omega
        have hst := sum_take_le h0 (L.length - 2)
        obtain ⟨v, e, r1, r2, r3⟩ := ih (L.length - 2) (by omega) (L.take (L.length - 2)) (by simp) (by simp; omega) (by
          rcases (by omega : L.length = 1 ∨ 3 ≤ L.length) with h | h
          · left; rw [h]; rfl
          · right; simp; omega) (hm.take _) (by omega) (fun h => by
            rw [List.getElem_take]
            exact hf (by omega))
        refine ⟨v, Ev.succ ?_, r1, by simp at r2; omega, by omega⟩
        simp only [key_cleaned.l1, w1, rl, hmx, Int.toNat_natCast]
        exact Ev.pos (by omega) (Ev.pos (by omega) (Ev.pos (by omega) (Ev.pos c (Ev.pos (by omega) (Ev.pos (by omega) e)))))
      · obtain ⟨v, e, r1, r2, r3, r4⟩ := cleaned_go L least hl ho hm hs hle (hf (by omega)) (by omega)
        refine ⟨v, Ev.succ ?_, .inr ⟨r1, r2⟩, r3, by omega⟩
        simp only [key_cleaned.l1, w1, rl]
        exact Ev.pos (by omega) (Ev.pos (by omega) (Ev.pos (by omega) (Ev.neg c (Ev.neg (by omega) (Ev.pos (by omega) e)))))
theorem cleaned_l0 (least : Int) (hle : 1 ≤ least) (n : Nat) : ∀ L : List Int, L.length = n → L.length ≤ 20000 → (L = [] ∨ L.length % 2 = 1) → MG (fun x => least ≤ x) (fun x => 1 ≤ x) L → L.sum ≤ 100000 →
    ∃ v, Ev (fun k => key_cleaned.l0 k least L) v ∧ (v = [] ∨ (∀ y ∈ v, least ≤ y) ∧ v.length % 2 = 1) ∧ v.length ≤ L.length ∧ v.sum ≤ L.sum := by
  induction n using Nat.strongRecOn with
  | _ n ih =>
    intro L hn hl ho hm hs
    have hall : ∀ x ∈ L, 1 ≤ x := (hm.mono (p' := fun x => 1 ≤ x) (q' := fun x => 1 ≤ x) (fun x hx => by omega) (fun x hx => hx)).all
    have h0 : ∀ x ∈ L, 0 ≤ x := fun x hx => by have := hall x hx; omega
    rcases ho with rfl | ho
    · obtain ⟨v, e, r⟩ := cleaned_l1 least hle 0 [] rfl (by simp) (.inl rfl) hm (by simp) (fun h => by simp at h)
      refine ⟨v, Ev.succ ?_, r⟩
      simp only [key_cleaned.l0]
      exact Ev.neg (by simp) e
    · have r0 : rd L 0 = L[0]'(by omega) := rd_get L 0 (by omega)
      by_cases c : L[0]'(by omega) < least
      · have hmn : mn 2 (L.length : Int) = ((min 2 L.length : Nat) : Int) := by rw [mn_eq]; split <;> omega
        have hst := sum_drop_le h0 (min 2 L.length)
        have hcase : L.length = 1 ∨ 3 ≤ L.length := by omega
        obtain ⟨v, e, r1, r2, r3⟩ := ih (L.drop (min 2 L.length)).length (by simp; omega) (L.drop (min 2 L.length)) rfl (by simp; omega) (by
          rcases hcase with h | h
          · left; rw [h]; exact List.drop_eq_nil_of_le (by omega)
          · right; simp; omega) (by
          rcases hcase with h | h
          · intro i hi; simp at hi; omega
          · rw [Nat.min_eq_left (by omega)]; exact hm.drop2) (by omega)
        refine ⟨v, Ev.succ ?_, r1, by simp at r2; omega, by omega⟩
        simp only [key_cleaned.l0, r0, hmn, Int.toNat_natCast]
        exact Ev.pos (by omega) (Ev.pos (by omega) (Ev.pos c (Ev.pos (by omega) (Ev.pos (by omega) e))))
      · obtain ⟨v, e, r⟩ := cleaned_l1 least hle L.length L rfl hl (.inr ho) hm hs (fun h => by omega)
        refine ⟨v, Ev.succ ?_, r⟩
        simp only [key_cleaned.l0, r0]
        exact Ev.pos (by omega) (Ev.pos (by omega) (Ev.neg c e))
/-! ### what has nothing shorter stays as it is -/
theorem take2 (D : List Int) (i : Nat) (h : i + 1 < D.length) : D.take i ++ [D[i], D[i + 1]] = D.take (i + 2) := by
  have e1 : D.take (i + 2) = D.take (i + 1) ++ [D[i + 1]] := List.take_succ_eq_append_getElem (i := i + 1) h
  have e2 : D.take (i + 1) = D.take i ++ [D[i]] := List.take_succ_eq_append_getElem (i := i) (by omega)
  rw [e1, e2, List.append_assoc]
  rfl
theorem closed_same (D : List Int) (least : Int) (hl : D.length ≤ 20000) (ho : D.length % 2 = 1) (h : ∀ x ∈ D, least ≤ x) : Ev (fun k => key_closed.f k D least) D := by
  have run : ∀ (d i : Nat), i + 2 * d = D.length → Ev (fun k => key_closed.l0 k D least (i : Int) (D.take i)) D := by
    intro d
    induction d with
    | zero =>
      intro i hi
      obtain rfl : i = D.length := by omega
      rw [List.take_length]
      refine Ev.step (f := fun _ => some _) (fun k => ?_) (Ev.now _)
      simp only [key_closed.l0]
      rw [if_neg (by omega)]
    | succ d ih =>
      intro i hi
      have hi1 : i + 1 < D.length := by omega
      have hi0 : i < D.length := by omega
      have r1 : rd D ((i + 1 : Nat) : Int) = D[i + 1] := rd_get D (i + 1) hi1
      have w1 : wrap64 ((i : Int) + 1) = ((i + 1 : Nat) : Int) := wrap_succ (by omega)
      have w2 : wrap64 ((i : Int) + 2) = ((i + 2 : Nat) : Int) := by rw [wrap_id (by omega) (by omega)]; omega
      have hg := h _ (List.getElem_mem hi0)
      have e : Ev (fun k => key_closed.j4 k D least (i : Int) (D.take i ++ [D[i], D[i + 1]])) D := Ev.step (fun k => by simp only [key_closed.j4, w2, take2 D i hi1]) (ih (i + 2) (by omega))
      refine Ev.succ ?_
      simp only [key_closed.l0, rd_get D i hi0, w1, r1]
      exact Ev.pos (by omega) (Ev.pos (by omega) (Ev.pos (by omega) (Ev.neg (by omega) (Ev.pos (by omega) (Ev.pos (by omega) (Ev.pos (by omega) (Ev.pos (by omega) (Ev.pos (by simp; omega) e))))))))
  have r0 : rd D 0 = D[0]'(by omega) := rd_get D 0 (by omega)
  unfold key_closed.f
  simp only [r0]
  have := run ((D.length - 1) / 2) 1 (by omega)
  rw [take_one D (by omega)] at this
  exact Ev.pos (by omega) this
theorem cleaned_same (D : List Int) (least : Int) (hl : D.length ≤ 20000) (ho : D.length % 2 = 1) (h : ∀ x ∈ D, least ≤ x) : Ev (fun k => key_cleaned.f k D least) D := by
  have run : ∀ (d i : Nat), i + 2 * d = D.length → 1 ≤ i → Ev (fun k => key_cleaned.l2 k least D (i : Int) (D.take i)) D := by
    intro d
    induction d with
    | zero =>
      intro i hi _
      obtain rfl : i = D.length := by omega
      rw [List.take_length]
      refine Ev.step (f := fun _ => some _) (fun k => ?_) (Ev.now _)
      simp only [key_cleaned.l2]
      rw [if_neg (by omega)]
    | succ d ih =>
      intro i hi hpos
      have hi1 : i + 1 < D.length := by omega
      have hi0 : i < D.length := by omega
      have r1 : rd D ((i + 1 : Nat) : Int) = D[i + 1] := rd_get D (i + 1) hi1
      have w1 : wrap64 ((i : Int) + 1) = ((i + 1 : Nat) : Int) := wrap_succ (by omega)
      have w2 : wrap64 ((i : Int) + 2) = ((i + 2 : Nat) : Int) := by rw [wrap_id (by omega) (by omega)]; omega
      have tl : (D.take i).length = i := by simp; omega
      have wn : wrap64 (((D.take i).length : Int) - 1) = ((i - 1 : Nat) : Int) := by rw [tl, wrap_id (by omega) (by omega)]; omega
      have rn : rd (D.take i) ((i - 1 : Nat) : Int) = D[i - 1]'(by omega) := by rw [rd_get _ (i - 1) (by omega), List.getElem_take]
      have hg := h _ (List.getElem_mem (show i - 1 < D.length by omega))
      have e := ih (i + 2) (by omega) (by omega)
      rw [← take2 D i hi1] at e
      refine Ev.succ ?_
      simp only [key_cleaned.l2, wn, rn, rd_get D i hi0, w1, r1, w2]
      exact Ev.pos (by omega) (Ev.pos (by omega) (Ev.pos (by omega) (Ev.neg (by omega) (Ev.pos (by omega) (Ev.pos (by omega) (Ev.pos (by omega) (Ev.pos (by omega) (Ev.pos (by simp; omega) e))))))))
  have r0 : rd D 0 = D[0]'(by omega) := rd_get D 0 (by omega)
  have w1 : wrap64 ((D.length : Int) - 1) = ((D.length - 1 : Nat) : Int) := by rw [wrap_id (by omega) (by omega)]; omega
  have rl := rd_get D (D.length - 1) (by omega)
  have hf := h _ (List.getElem_mem (show 0 < D.length by omega))
  have hla := h _ (List.getElem_mem (show D.length - 1 < D.length by omega))
  have e2 := run ((D.length - 1) / 2) 1 (by omega) (by omega)
  rw [take_one D (by omega)] at e2
  have e1 : Ev (fun k => key_cleaned.l1 k least D) D := by
    refine Ev.succ ?_
    simp only [key_cleaned.l1, w1, rl, r0]
    exact Ev.pos (by omega) (Ev.pos (by omega) (Ev.pos (by omega) (Ev.neg (by omega) (Ev.neg (by omega) (Ev.pos (by omega) e2)))))
  refine Ev.succ (g := fun k => key_cleaned.l0 k least D) ?_
  simp only [key_cleaned.l0, r0]
  exact Ev.pos (by omega) (Ev.pos (by omega) (Ev.neg (by omega) e1))
/-! ### marks that may be -/
theorem CheckMarks_spec (l : List Int) (hl : l.length ≤ 20000) (ho : l.length % 2 = 1) (h : ∀ x ∈ l, 1 ≤ x ∧ x ≤ 100000) : Ev (fun k => key_CheckMarks.f k l) 0 := by
  obtain ⟨v, rfl, hv⟩ := loop l (fun k i (_ : Unit) => slices_IndexFunc_int_int_of_key_CheckMarks_1.l0 k l i) (fun _ _ => True) (fun v => v = -1)
    (fun i _ hi _ => .inl ⟨(), trivial, fun v hv => Ev.step (fun k => by
      have hx := h _ (List.getElem_mem hi)
      simp only [slices_IndexFunc_int_int_of_key_CheckMarks_1.l0, key_CheckMarks_1.f, kit_Outside.f]
      rw [if_pos (by omega), if_pos (by omega), if_pos (by omega), rd_get l i hi, if_neg (by omega)]
      simp only [Option.bind_some]
      rw [if_neg (by simp; omega), wrap_succ (by omega)]) hv⟩)
    (fun _ _ => ⟨-1, rfl, Ev.step (f := fun _ => some _) (fun k => by simp only [slices_IndexFunc_int_int_of_key_CheckMarks_1.l0]; rw [if_neg (by omega)]) (Ev.now _)⟩) 0 () (by omega) trivial
  have hc : Ev (fun k => slices_ContainsFunc_int_int_of_key_CheckMarks_1.f k l) false := Ev.bind (f := fun k => slices_IndexFunc_int_int_of_key_CheckMarks_1.l0 k l 0) hv (Ev.now _)
  unfold key_CheckMarks.f
  refine Ev.neg (by omega) (Ev.neg (by omega) (Ev.neg ?_ (Ev.bind hc (Ev.neg Bool.false_ne_true (Ev.now _)))))
  rw [tmod_pos (by omega)]
  omega
theorem small_spec (l : List Int) (hl : l.length ≤ 20000) (h : ∀ x ∈ l, x ≤ 100000) : Ev (fun k => slices_ContainsFunc_int_int_of_key_Clean_1.f k l) false := by
  obtain ⟨v, rfl, hv⟩ := loop l (fun k i (_ : Unit) => slices_IndexFunc_int_int_of_key_Clean_1.l0 k l i) (fun _ _ => True) (fun v => v = -1)
    (fun i _ hi _ => .inl ⟨(), trivial, fun v hv => Ev.step (fun k => by
      have hx := h _ (List.getElem_mem hi)
      simp only [slices_IndexFunc_int_int_of_key_Clean_1.l0, key_Clean_1.f]
      rw [if_pos (by omega), if_pos (by omega), if_pos (by omega), rd_get l i hi]
      simp only [Option.bind_some]
      rw [if_neg (by simp; omega), wrap_succ (by omega)]) hv⟩)
    (fun _ _ => ⟨-1, rfl, Ev.step (f := fun _ => some _) (fun k => by simp only [slices_IndexFunc_int_int_of_key_Clean_1.l0]; rw [if_neg (by omega)]) (Ev.now _)⟩) 0 () (by omega) trivial
  exact Ev.bind (f := fun k => slices_IndexFunc_int_int_of_key_Clean_1.l0 k l 0) hv (Ev.now _)
theorem Clean_spec (l : List Int) (least : Int) (hl : l.length ≤ 20000) (ho : l.length % 2 = 1) (h : ∀ x ∈ l, 1 ≤ x) (hs : l.sum ≤ 100000) (hle : 1 ≤ least ∧ least ≤ 100000) :
    Ev (fun k => key_Clean.f k l least) ([], 8) ∨ ∃ D, Ev (fun k => key_Clean.f k l least) (D, 0) ∧ (∀ y ∈ D, least ≤ y) ∧ D.length % 2 = 1 ∧ D.length ≤ l.length ∧ D.sum ≤ l.sum := by
  have h0 : ∀ x ∈ l, 0 ≤ x := fun x hx => by have := h x hx; omega
  have hc := CheckMarks_spec l hl ho (fun x hx => ⟨h x hx, by have := le_sum h0 x hx; omega⟩)
  obtain ⟨C, e1, c1, c2, c3, c4⟩ := closed_spec l least hl ho h hs hle.1
  obtain ⟨D, e2, d1, d2, d3⟩ := cleaned_l0 least hle.1 C.length C rfl (by omega) (.inr c2) c1 (by omega)
  have hO : kit_Outside.f least 1 100000 = some false := by unfold kit_Outside.f; rw [if_neg (by omega)]; simp; omega
  have hbase : ∀ v, Ev (fun k => if (D.length : Int) = 0 then Option.some ([], 8) else ((slices_ContainsFunc_int_int_of_key_Clean_1.f k D).bind fun r5 => (if r5 = true then Option.some ([], 2) else Option.some (D, 0)))) v → Ev (fun k => key_Clean.f k l least) v := fun v hv => by
    unfold key_Clean.f
    simp only [hO, Option.bind_some]
    exact Ev.bind hc (Ev.pos rfl (Ev.neg Bool.false_ne_true (Ev.bind e1 (Ev.bind (f := fun k => key_cleaned.l0 k least C) e2 hv))))
  rcases d1 with rfl | ⟨d1, dodd⟩
  · exact .inl (hbase _ (Ev.pos (by simp) (Ev.now _)))
  · have d0 : ∀ x ∈ D, 0 ≤ x := fun x hx => by have := d1 x hx; omega
    exact .inr ⟨D, hbase _ (Ev.neg (by omega) (Ev.bind (small_spec D (by omega) (fun x hx => by have := le_sum d0 x hx; omega)) (Ev.neg Bool.false_ne_true (Ev.now _)))), d1, dodd, by omega, by omega⟩
theorem Clean_same (D : List Int) (least : Int) (hl : D.length ≤ 20000) (ho : D.length % 2 = 1) (h : ∀ x ∈ D, least ≤ x) (hs : D.sum ≤ 100000) (hle : 1 ≤ least ∧ least ≤ 100000) : Ev (fun k => key_Clean.f k D least) (D, 0) := by
  have h0 : ∀ x ∈ D, 0 ≤ x := fun x hx => by have := h x hx; omega
  have hb : ∀ x ∈ D, x ≤ 100000 := fun x hx => by have := le_sum h0 x hx; omega
  have hc := CheckMarks_spec D hl ho (fun x hx => ⟨by have := h x hx; omega, hb x hx⟩)
  have hO : kit_Outside.f least 1 100000 = some false := by unfold kit_Outside.f; rw [if_neg (by omega)]; simp; omega
  unfold key_Clean.f
  simp only [hO, Option.bind_some]
  exact Ev.bind hc (Ev.pos rfl (Ev.neg Bool.false_ne_true (Ev.bind (closed_same D least hl ho h) (Ev.bind (cleaned_same D least hl ho h) (Ev.neg (by omega) (Ev.bind (small_spec D hl hb) (Ev.neg Bool.false_ne_true (Ev.now _))))))))
theorem Equal_same (D : List Int) (hl : D.length ≤ 20000) : Ev (fun k => slices_Equal_int_int.f k D D) true := by
  obtain ⟨v, rfl, hv⟩ := loop D (fun k i (_ : Unit) => slices_Equal_int_int.l0 k D D i) (fun _ _ => True) (fun v => v = true)
    (fun i _ hi _ => .inl ⟨(), trivial, fun v hv => Ev.step (fun k => by
      simp only [slices_Equal_int_int.l0]
      rw [if_pos (by omega), if_pos (by omega), if_pos (by omega), if_pos (by omega), if_pos (by omega), if_pos trivial, wrap_succ (by omega)]) hv⟩)
    (fun _ _ => ⟨true, rfl, Ev.step (f := fun _ => some _) (fun k => by simp only [slices_Equal_int_int.l0]; rw [if_neg (by omega)]) (Ev.now _)⟩) 0 () (by omega) trivial
  unfold slices_Equal_int_int.f
  exact Ev.pos rfl hv
theorem Min_ge (D : List Int) (least : Int) (hl : D.length ≤ 20000) (hp : 1 ≤ D.length) (h : ∀ x ∈ D, least ≤ x) : ∃ m, Ev (fun k => slices_Min_int_int.f k D) m ∧ least ≤ m := by
  obtain ⟨m, hm, hv⟩ := loop D (fun k i (a : Int) => slices_Min_int_int.l0 k D a i) (fun _ a => least ≤ a) (fun m => least ≤ m)
    (fun i a hi ha => .inl ⟨mn a D[i], by have := h _ (List.getElem_mem hi); rw [mn_eq]; split <;> omega, fun v hv => Ev.step (fun k => by
      simp only [slices_Min_int_int.l0]
      rw [if_pos (by omega), if_pos (by omega), if_pos (by omega), rd_get D i hi, wrap_succ (by omega)]) hv⟩)
    (fun a ha => ⟨a, ha, Ev.step (f := fun _ => some _) (fun k => by simp only [slices_Min_int_int.l0]; rw [if_neg (by omega)]) (Ev.now _)⟩) 1 (D[0]'(by omega)) hp (h _ (List.getElem_mem _))
  have r0 : rd D 0 = D[0]'(by omega) := rd_get D 0 (by omega)
  refine ⟨m, ?_, hm⟩
  unfold slices_Min_int_int.f
  refine Ev.neg (by omega) (Ev.succ ?_)
  simp only [slices_Min_int_int.j3, r0]
  exact Ev.pos (by omega) hv
end Go.EV.Pure
namespace Go.EV.Pure
open Go Go.EV Go.RowKit
set_option linter.unusedSimpArgs false
set_option maxRecDepth 100000
/-! The table of codes, and what is keyed. -/
theorem index_hit (p rest : List UInt8) (h : (32 : UInt8) ∉ p) : Lib.index (p ++ 32 :: rest) [32] = (p.length : Int) := by
  induction p with
  | nil => simp [Lib.index, List.isPrefixOf]
  | cons b p ih =>
    have ih := ih (fun h' => h (by simp [h']))
    have hb : ¬ (32 : UInt8) = b := fun e => h (by simp [e])
    simp only [List.cons_append, Lib.index, List.isPrefixOf, beq_iff_eq, ih]
    have : ((32 : UInt8) == b) = false := by simpa using hb
    rw [this]
    simp <;> omega
theorem index_miss (p : List UInt8) (h : (32 : UInt8) ∉ p) : Lib.index p [32] = -1 := by
  induction p with
  | nil => simp [Lib.index]
  | cons b p ih =>
    have ih := ih (fun h' => h (by simp [h']))
    have hb : ¬ (32 : UInt8) = b := fun e => h (by simp [e])
    have : ((32 : UInt8) == b) = false := by simpa using hb
    simp only [Lib.index, List.isPrefixOf, ih, this]
    simp
def joinSp : List (List UInt8) → List UInt8
  | [] => []
  | [p] => p
  | p :: q :: r => p ++ 32 :: joinSp (q :: r)
def mkB (p : List UInt8) : ByteArray := ⟨p.toArray⟩
theorem mkB_size (p : List UInt8) : (mkB p).size = p.length := by simp [mkB, ByteArray.size]
theorem ext_head (p rest : List UInt8) : (mkB (p ++ 32 :: rest)).extract 0 p.length = mkB p := by
  apply ByteArray.ext
  simp [mkB, ByteArray.data_extract]
theorem ext_tail (p rest : List UInt8) : (mkB (p ++ 32 :: rest)).extract (p.length + 1) (mkB (p ++ 32 :: rest)).size = mkB rest := by
  apply ByteArray.ext
  rw [mkB_size]
  simp only [mkB, ByteArray.data_extract]
  apply Array.ext'
  have h : List.drop (p.length + 1) p = [] := List.drop_eq_nil_of_le (by omega)
  simp only [List.extract_toArray, List.extract_eq_take_drop, List.drop_append, h, List.nil_append, Nat.add_sub_cancel_left, List.drop_succ_cons, List.drop_zero, List.length_append, List.length_cons]
  rw [List.take_of_length_le (by omega)]
theorem split_all (sp : ByteArray) (hsp : sp = mkB [32]) : ∀ (q : List UInt8) (r : List (List UInt8)), (∀ p ∈ q :: r, (32 : UInt8) ∉ p) → Lib.countB (mkB (joinSp (q :: r))) sp = r.length ∧ Lib.splitB sp 0 r.length (mkB (joinSp (q :: r))) = (q :: r).map mkB
  | q, [], h => by
    subst hsp
    refine ⟨?_, rfl⟩
    exact Lib.countB_miss _ _ (index_miss q (h q (by simp)))
  | q, p :: r, h => by
    obtain ⟨h1, h2⟩ := split_all sp hsp p r (fun x hx => h x (by simp [List.mem_cons.1 hx]))
    subst hsp
    have hi : Lib.indexB (mkB (joinSp (q :: p :: r))) (mkB [32]) = ((q.length : Nat) : Int) := index_hit q _ (h q (by simp))
    have hs : (mkB [32]).size = 1 := rfl
    have hj : joinSp (q :: p :: r) = q ++ 32 :: joinSp (p :: r) := rfl
    constructor
    · rw [Lib.countB_hit _ _ q.length (by rw [hs]; omega) hi, hs, hj, ext_tail, h1]
      simp
      omega
    · rw [List.length_cons, Lib.splitB_hit _ _ _ _ q.length hi, hs, hj, Nat.add_zero, ext_head, ext_tail, h2]
      rfl
def codesL : List (List UInt8) := [[46, 45], [45, 46, 46, 46], [45, 46, 45, 46], [45, 46, 46], [46], [46, 46, 45, 46], [45, 45, 46], [46, 46, 46, 46], [46, 46], [46, 45, 45, 45], [45, 46, 45], [46, 45, 46, 46], [45, 45], [45, 46], [45, 45, 45], [46, 45, 45, 46], [45, 45, 46, 45], [46, 45, 46], [46, 46, 46], [45], [46, 46, 45], [46, 46, 46, 45], [46, 45, 45], [45, 46, 46, 45], [45, 46, 45, 45], [45, 45, 46, 46], [45, 45, 45, 45, 45], [46, 45, 45, 45, 45], [46, 46, 45, 45, 45], [46, 46, 46, 45, 45], [46, 46, 46, 46, 45], [46, 46, 46, 46, 46], [45, 46, 46, 46, 46], [45, 45, 46, 46, 46], [45, 45, 45, 46, 46], [45, 45, 45, 45, 46], [45, 46, 46, 45, 46], [46, 46, 45, 45, 46, 46], [45, 46, 46, 46, 45], [46, 45, 46, 45, 46]]
theorem split0 : strings_Split.f str_0 (⟨#[32]⟩ : ByteArray) = some (codesL.map mkB) := by
  have e : str_0 = mkB (joinSp codesL) := by
    apply ByteArray.ext
    rfl
  have hl : codesL = [46, 45] :: codesL.tail := rfl
  obtain ⟨h1, h2⟩ := split_all (⟨#[32]⟩ : ByteArray) rfl [46, 45] codesL.tail (by decide)
  rw [← hl] at h1 h2
  unfold strings_Split.f
  rw [e, h1, h2, if_pos]
  refine ⟨?_, by decide⟩
  rw [mkB_size]
  decide
theorem codes_ok : codesL.length = 40 ∧ ∀ p ∈ codesL, 1 ≤ p.length ∧ p.length ≤ 6 ∧ ∀ b ∈ p, b.toNat < 128 := by
  refine ⟨rfl, ?_⟩
  decide
theorem CodesOf_ev : ∃ R : List (ByteArray × ByteArray), Ev (fun k => pileref1_CodesOf.f k) R ∧ R.length = 40 ∧ ∀ (j : Nat) (h : j < R.length) (h2 : j < codesL.length), (R[j]).2 = mkB codesL[j] := by
  have h1 : (str_1.size : Int) = 40 := rfl
  obtain ⟨v, hv, he⟩ := loop (codesL.map mkB) (fun k i (o : List (ByteArray × ByteArray)) => pileref1_CodesOf.l0 k (codesL.map mkB) ((codesL.map mkB).length : Int) i o)
    (fun i o => o.length = i ∧ ∀ (j : Nat) (h : j < o.length) (h2 : j < codesL.length), (o[j]).2 = mkB codesL[j]) (fun R => R.length = 40 ∧ ∀ (j : Nat) (h : j < R.length) (h2 : j < codesL.length), (R[j]).2 = mkB codesL[j])
    (fun i o hi ⟨i1, i2⟩ => .inl ⟨o ++ [(str_1.extract ((i : Int)).toNat (((i + 1 : Nat) : Int)).toNat, mkB (codesL[i]'(by simpa using hi)))], ⟨by simp; omega, fun j h h2 => by
      by_cases c : j < o.length
      · rw [List.getElem_append_left c]; exact i2 j c h2
      · have : j = o.length := by simp at h; omega
        subst this
        simp [i1]⟩, fun v hv => Ev.step (fun k => by
      have hlen : (codesL.map mkB).length = 40 := rfl
      have hr : rdE eS (codesL.map mkB) (i : Int) = mkB (codesL[i]'(by simpa using hi)) := by rw [rdE_get eS _ i hi]; simp
      simp only [pileref1_CodesOf.l0, hr, wrap_succ (show i ≤ 1000000000000000 by omega), h1]
      rw [if_pos (by omega), if_pos (by omega), if_pos (by omega), if_pos (by omega), if_pos (by omega), if_pos (by omega), if_pos (by omega), if_pos (by simp; omega)]) hv⟩)
    (fun o ⟨i1, i2⟩ => ⟨o, ⟨i1, i2⟩, Ev.step (f := fun _ => some _) (fun k => by simp only [pileref1_CodesOf.l0]; rw [if_neg (by omega)]) (Ev.now _)⟩) 0 [] (by simp) ⟨rfl, fun j h => by simp at h⟩
  refine ⟨v, ?_, hv⟩
  unfold pileref1_CodesOf.f
  simp only [split0, Option.bind_some]
  exact he
theorem ib (c : UInt8) (post : List UInt8) : ∀ pre : List UInt8, c ∉ pre → Lib.indexByte (pre ++ c :: post) c = (pre.length : Int) := by
  intro pre
  induction pre with
  | nil => intro _; simp [Lib.indexByte]
  | cons b pre ih =>
    intro h
    have ih := ih (fun h' => h (by simp [h']))
    have hb : (b == c) = false := by
      rw [beq_eq_false_iff_ne]
      exact fun e => h (by simp [e])
    simp only [List.cons_append, Lib.indexByte, ih, hb]
    simp <;> omega
theorem codeOf_at (c : Nat) (i : Nat) (hi : i < 40) (h : Lib.indexByte str_1.data.toList (((c : Int)).toNat.toUInt8) = (i : Int)) : ∃ p, Ev (fun k => pileref1_codeOf.f k (c : Int)) (mkB p) ∧ p ∈ codesL := by
  obtain ⟨R, hR, hl, hp⟩ := CodesOf_ev
  refine ⟨codesL[i]'(by rw [codes_ok.1]; exact hi), ?_, List.getElem_mem _⟩
  unfold pileref1_codeOf.f
  refine Ev.bind hR ?_
  have hs : strings_IndexByte.f str_1 (c : Int) = some (i : Int) := by
    unfold strings_IndexByte.f
    rw [h]
  simp only [hs, Option.bind_some]
  refine Ev.pos (by omega) (Ev.pos (by omega) ?_)
  rw [rdE_get e_SS R i (by omega), hp i (by omega) (by rw [codes_ok.1]; exact hi)]
  exact Ev.now _
theorem code_49 : ∃ p, Ev (fun k => pileref1_codeOf.f k 49) (mkB p) ∧ p ∈ codesL := codeOf_at 49 27 (by omega) (ib 49 _ [97, 98, 99, 100, 101, 102, 103, 104, 105, 106, 107, 108, 109, 110, 111, 112, 113, 114, 115, 116, 117, 118, 119, 120, 121, 122, 48] (by decide))
theorem code_53 : ∃ p, Ev (fun k => pileref1_codeOf.f k 53) (mkB p) ∧ p ∈ codesL := codeOf_at 53 31 (by omega) (ib 53 _ [97, 98, 99, 100, 101, 102, 103, 104, 105, 106, 107, 108, 109, 110, 111, 112, 113, 114, 115, 116, 117, 118, 119, 120, 121, 122, 48, 49, 50, 51, 52] (by decide))
theorem code_97 : ∃ p, Ev (fun k => pileref1_codeOf.f k 97) (mkB p) ∧ p ∈ codesL := codeOf_at 97 0 (by omega) (ib 97 _ [] (by decide))
theorem code_98 : ∃ p, Ev (fun k => pileref1_codeOf.f k 98) (mkB p) ∧ p ∈ codesL := codeOf_at 98 1 (by omega) (ib 98 _ [97] (by decide))
theorem code_101 : ∃ p, Ev (fun k => pileref1_codeOf.f k 101) (mkB p) ∧ p ∈ codesL := codeOf_at 101 4 (by omega) (ib 101 _ [97, 98, 99, 100] (by decide))
theorem code_105 : ∃ p, Ev (fun k => pileref1_codeOf.f k 105) (mkB p) ∧ p ∈ codesL := codeOf_at 105 8 (by omega) (ib 105 _ [97, 98, 99, 100, 101, 102, 103, 104] (by decide))
theorem code_107 : ∃ p, Ev (fun k => pileref1_codeOf.f k 107) (mkB p) ∧ p ∈ codesL := codeOf_at 107 10 (by omega) (ib 107 _ [97, 98, 99, 100, 101, 102, 103, 104, 105, 106] (by decide))
theorem code_110 : ∃ p, Ev (fun k => pileref1_codeOf.f k 110) (mkB p) ∧ p ∈ codesL := codeOf_at 110 13 (by omega) (ib 110 _ [97, 98, 99, 100, 101, 102, 103, 104, 105, 106, 107, 108, 109] (by decide))
theorem code_112 : ∃ p, Ev (fun k => pileref1_codeOf.f k 112) (mkB p) ∧ p ∈ codesL := codeOf_at 112 15 (by omega) (ib 112 _ [97, 98, 99, 100, 101, 102, 103, 104, 105, 106, 107, 108, 109, 110, 111] (by decide))
theorem code_114 : ∃ p, Ev (fun k => pileref1_codeOf.f k 114) (mkB p) ∧ p ∈ codesL := codeOf_at 114 17 (by omega) (ib 114 _ [97, 98, 99, 100, 101, 102, 103, 104, 105, 106, 107, 108, 109, 110, 111, 112, 113] (by decide))
theorem code_115 : ∃ p, Ev (fun k => pileref1_codeOf.f k 115) (mkB p) ∧ p ∈ codesL := codeOf_at 115 18 (by omega) (ib 115 _ [97, 98, 99, 100, 101, 102, 103, 104, 105, 106, 107, 108, 109, 110, 111, 112, 113, 114] (by decide))
theorem code_116 : ∃ p, Ev (fun k => pileref1_codeOf.f k 116) (mkB p) ∧ p ∈ codesL := codeOf_at 116 19 (by omega) (ib 116 _ [97, 98, 99, 100, 101, 102, 103, 104, 105, 106, 107, 108, 109, 110, 111, 112, 113, 114, 115] (by decide))
/-- What was keyed so far, of m signs. -/
def KI (m : Nat) (o : List Int) : Prop := (o = [] ∨ o.length % 2 = 1) ∧ o.length ≤ 12 * m ∧ (∀ x ∈ o, 1 ≤ x ∧ x ≤ 1400) ∧ (1 ≤ m → o ≠ [])
def KP (s : ByteArray) (u v : Int) (i : Int) (m : Nat) : Prop := ∀ (o : List Int) (g : Int), KI m o → (o = [] ∨ (1 ≤ g ∧ g ≤ 1400)) → ∃ L, Ev (fun k => pileref1_KeyedOf.l0 k s u v g i o) L ∧ KI 5 L
theorem KP_end (s : ByteArray) (u v : Int) (m : Nat) (hm : m ≤ 5) (h1 : 1 ≤ m) : KP s u v (s.size : Int) m := fun o g ho _ => by
  refine ⟨o, Ev.step (f := fun _ => some _) (fun k => ?_) (Ev.now _), ho.1, by have := ho.2.1; omega, ho.2.2.1, fun _ => ho.2.2.2 h1⟩
  simp only [pileref1_KeyedOf.l0]
  rw [if_neg (by omega)]
theorem KP_space (s : ByteArray) (u v i : Int) (m : Nat) (hv : 1 ≤ v ∧ v ≤ 200) (hi : 0 ≤ i ∧ i < (s.size : Int)) (hs : (s.size : Int) ≤ 1000) (hb : bt s i = 32) (h : KP s u v (i + 1) m) : KP s u v i m := fun o g ho hg => by
  obtain ⟨L, e, r⟩ := h o (7 * v) ho (.inr (by omega))
  refine ⟨L, Ev.succ ?_, r⟩
  simp only [pileref1_KeyedOf.l0, hb, wrap_id (e := 7 * v) (by omega) (by omega), wrap_id (e := i + 1) (by omega) (by omega)]
  exact Ev.pos hi.2 (Ev.pos hi.1 (Ev.pos hi.2 (Ev.pos (by trivial) e)))
theorem sign_run (s : ByteArray) (u v i : Int) (m : Nat) (hu : 1 ≤ u ∧ u ≤ 100) (hv : 1 ≤ v ∧ v ≤ 200) (hi : 0 ≤ i ∧ i ≤ 1000) (p : List UInt8) (hp1 : 1 ≤ p.length) (hp : p.length ≤ 6) (hpa : ∀ b ∈ p, b.toNat < 128) (h : KP s u v (i + 1) (m + 1)) (hm : m ≤ 10) (d : Nat) :
    ∀ (j : Nat) (o : List Int) (g : Int), j + d = p.length → (o = [] ∨ o.length % 2 = 1) → o.length ≤ 12 * m + 2 * j → (∀ x ∈ o, 1 ≤ x ∧ x ≤ 1400) → (1 ≤ j → o ≠ []) → (o = [] ∨ (1 ≤ g ∧ g ≤ 1400)) → ∃ L, Ev (fun k => pileref1_KeyedOf.l1 k s u v i g o (mkB p) j) L ∧ KI 5 L := by
  induction d with
  | zero =>
    intro j o g hj h1 h2 h3 h4 h5
    obtain ⟨L, e, r⟩ := h o (3 * v) ⟨h1, by omega, h3, fun _ => h4 (by omega)⟩ (.inr (by omega))
    refine ⟨L, Ev.succ ?_, r⟩
    simp only [pileref1_KeyedOf.l1, mkB_size, wrap_id (e := 3 * v) (by omega) (by omega), wrap_id (e := i + 1) (by omega) (by omega)]
    exact Ev.neg (by omega) e
  | succ d ih =>
    intro j o g hj h1 h2 h3 h4 h5
    have hjl : j < p.length := by omega
    have hjs : j < (mkB p).size := by rw [mkB_size]; exact hjl
    have hget : (mkB p)[j]'hjs = p[j] := rfl
    have hdec : Utf8.decode (mkB p) j = ((p[j]).toNat, 1) := by
      have := decode_ascii (mkB p) j hjs (by rw [hget]; exact hpa _ (List.getElem_mem hjl))
      rw [this, hget]
    have step : ∀ (o2 : List Int), (o2.length % 2 = 0) → o2.length ≤ 12 * m + 2 * j + 1 → (∀ x ∈ o2, 1 ≤ x ∧ x ≤ 1400) → ∃ L, Ev (fun k => pileref1_KeyedOf.j13 k s u v i (mkB p) j o2) L ∧ KI 5 L := fun o2 q1 q2 q3 => by
      have go : ∀ x : Int, 1 ≤ x ∧ x ≤ 1400 → ∃ L, Ev (fun k => pileref1_KeyedOf.j16 k s u v i (mkB p) j (o2 ++ [x])) L ∧ KI 5 L := fun x hx => by
        obtain ⟨L, e, r⟩ := ih (j + 1) (o2 ++ [x]) u (by omega) (.inr (by simp; omega)) (by simp; omega) (fun y hy => by
          rcases List.mem_append.1 hy with hy | hy
          · exact q3 y hy
          · obtain rfl : y = x := by simpa using hy
            exact hx) (fun _ => by simp) (.inr (by omega))
        exact ⟨L, Ev.step (fun k => by simp only [pileref1_KeyedOf.j16, hdec]) e, r⟩
      by_cases c : (((p[j]).toNat : Nat) : Int) = 46
      · obtain ⟨L, e, r⟩ := go u (by omega)
        refine ⟨L, Ev.succ ?_, r⟩
        simp only [pileref1_KeyedOf.j13, hdec]
        exact Ev.pos c (Ev.pos (by omega) e)
      · obtain ⟨L, e, r⟩ := go (3 * u) (by omega)
        refine ⟨L, Ev.succ ?_, r⟩
        simp only [pileref1_KeyedOf.j13, hdec, wrap_id (e := 3 * u) (by omega) (by omega)]
        exact Ev.neg c (Ev.pos (by omega) e)
    by_cases c : (o.length : Int) > 0
    · have hg : 1 ≤ g ∧ g ≤ 1400 := by
        rcases h5 with rfl | h5
        · simp at c
        · exact h5
      have hod : o.length % 2 = 1 := by
        rcases h1 with rfl | h1
        · simp at c
        · exact h1
      obtain ⟨L, e, r⟩ := step (o ++ [g]) (by simp; omega) (by simp; omega) (fun y hy => by
        rcases List.mem_append.1 hy with hy | hy
        · exact h3 y hy
        · obtain rfl : y = g := by simpa using hy
          exact hg)
      refine ⟨L, Ev.succ ?_, r⟩
      simp only [pileref1_KeyedOf.l1]
      exact Ev.pos hjs (Ev.pos c (Ev.pos (by omega) e))
    · have : o = [] := List.eq_nil_of_length_eq_zero (by omega)
      subst this
      obtain ⟨L, e, r⟩ := step [] rfl (by simp) (fun y hy => by cases hy)
      refine ⟨L, Ev.succ ?_, r⟩
      simp only [pileref1_KeyedOf.l1]
      exact Ev.pos hjs (Ev.neg c e)
theorem KP_sign (s : ByteArray) (u v i c : Int) (m : Nat) (hu : 1 ≤ u ∧ u ≤ 100) (hv : 1 ≤ v ∧ v ≤ 200) (hi : 0 ≤ i ∧ i < (s.size : Int)) (hs : (s.size : Int) ≤ 1000) (hm : m ≤ 10) (hb : bt s i = c) (hc : c ≠ 32) (hp : ∃ p, Ev (fun k => pileref1_codeOf.f k c) (mkB p) ∧ p ∈ codesL) (h : KP s u v (i + 1) (m + 1)) : KP s u v i m := fun o g ho hg => by
  obtain ⟨p, he, hmem⟩ := hp
  obtain ⟨p1, p2, p3⟩ := codes_ok.2 p hmem
  obtain ⟨L, e, r⟩ := sign_run s u v i m hu hv (by omega) p p1 p2 p3 h hm p.length 0 o g (by omega) ho.1 (by have := ho.2.1; omega) ho.2.2.1 (fun h => by omega) hg
  refine ⟨L, Ev.succ ?_, r⟩
  simp only [pileref1_KeyedOf.l0, hb]
  exact Ev.pos hi.2 (Ev.pos hi.1 (Ev.pos hi.2 (Ev.neg hc (Ev.pos hi.1 (Ev.pos hi.2 (Ev.bind he e))))))
theorem word0 (u v : Int) (hu : 1 ≤ u ∧ u ≤ 100) (hv : 1 ≤ v ∧ v ≤ 200) : KP (⟨#[101]⟩ : ByteArray) u v 0 0 := KP_sign _ u v 0 101 0 hu hv (by decide) (by decide) (by omega) (by decide) (by decide) code_101 (KP_end (⟨#[101]⟩ : ByteArray) u v 1 (by omega) (by omega))
theorem word1 (u v : Int) (hu : 1 ≤ u ∧ u ≤ 100) (hv : 1 ≤ v ∧ v ≤ 200) : KP (⟨#[112, 97, 114, 105, 115]⟩ : ByteArray) u v 0 0 := KP_sign _ u v 0 112 0 hu hv (by decide) (by decide) (by omega) (by decide) (by decide) code_112 (KP_sign _ u v 1 97 1 hu hv (by decide) (by decide) (by omega) (by decide) (by decide) code_97 (KP_sign _ u v 2 114 2 hu hv (by decide) (by decide) (by omega) (by decide) (by decide) code_114 (KP_sign _ u v 3 105 3 hu hv (by decide) (by decide) (by omega) (by decide) (by decide) code_105 (KP_sign _ u v 4 115 4 hu hv (by decide) (by decide) (by omega) (by decide) (by decide) code_115 (KP_end (⟨#[112, 97, 114, 105, 115]⟩ : ByteArray) u v 5 (by omega) (by omega))))))
theorem word2 (u v : Int) (hu : 1 ≤ u ∧ u ≤ 100) (hv : 1 ≤ v ∧ v ≤ 200) : KP (⟨#[107, 49, 97, 98, 32, 107]⟩ : ByteArray) u v 0 0 := KP_sign _ u v 0 107 0 hu hv (by decide) (by decide) (by omega) (by decide) (by decide) code_107 (KP_sign _ u v 1 49 1 hu hv (by decide) (by decide) (by omega) (by decide) (by decide) code_49 (KP_sign _ u v 2 97 2 hu hv (by decide) (by decide) (by omega) (by decide) (by decide) code_97 (KP_sign _ u v 3 98 3 hu hv (by decide) (by decide) (by omega) (by decide) (by decide) code_98 (KP_space _ u v 4 4 hv (by decide) (by decide) (by decide) (KP_sign _ u v 5 107 4 hu hv (by decide) (by decide) (by omega) (by decide) (by decide) code_107 (KP_end (⟨#[107, 49, 97, 98, 32, 107]⟩ : ByteArray) u v 5 (by omega) (by omega)))))))
theorem word3 (u v : Int) (hu : 1 ≤ u ∧ u ≤ 100) (hv : 1 ≤ v ∧ v ≤ 200) : KP (⟨#[116, 101, 115, 116, 32, 116]⟩ : ByteArray) u v 0 0 := KP_sign _ u v 0 116 0 hu hv (by decide) (by decide) (by omega) (by decide) (by decide) code_116 (KP_sign _ u v 1 101 1 hu hv (by decide) (by decide) (by omega) (by decide) (by decide) code_101 (KP_sign _ u v 2 115 2 hu hv (by decide) (by decide) (by omega) (by decide) (by decide) code_115 (KP_sign _ u v 3 116 3 hu hv (by decide) (by decide) (by omega) (by decide) (by decide) code_116 (KP_space _ u v 4 4 hv (by decide) (by decide) (by decide) (KP_sign _ u v 5 116 4 hu hv (by decide) (by decide) (by omega) (by decide) (by decide) code_116 (KP_end (⟨#[116, 101, 115, 116, 32, 116]⟩ : ByteArray) u v 5 (by omega) (by omega)))))))
theorem word4 (u v : Int) (hu : 1 ≤ u ∧ u ≤ 100) (hv : 1 ≤ v ∧ v ≤ 200) : KP (⟨#[53, 110, 110]⟩ : ByteArray) u v 0 0 := KP_sign _ u v 0 53 0 hu hv (by decide) (by decide) (by omega) (by decide) (by decide) code_53 (KP_sign _ u v 1 110 1 hu hv (by decide) (by decide) (by omega) (by decide) (by decide) code_110 (KP_sign _ u v 2 110 2 hu hv (by decide) (by decide) (by omega) (by decide) (by decide) code_110 (KP_end (⟨#[53, 110, 110]⟩ : ByteArray) u v 3 (by omega) (by omega))))
theorem word5 (u v : Int) (hu : 1 ≤ u ∧ u ≤ 100) (hv : 1 ≤ v ∧ v ≤ 200) : KP (⟨#[97, 32, 110]⟩ : ByteArray) u v 0 0 := KP_sign _ u v 0 97 0 hu hv (by decide) (by decide) (by omega) (by decide) (by decide) code_97 (KP_space _ u v 1 1 hv (by decide) (by decide) (by decide) (KP_sign _ u v 2 110 1 hu hv (by decide) (by decide) (by omega) (by decide) (by decide) code_110 (KP_end (⟨#[97, 32, 110]⟩ : ByteArray) u v 2 (by omega) (by omega))))
end Go.EV.Pure
namespace Go.EV.Pure
open Go Go.EV Go.RowKit
set_option maxRecDepth 100000
theorem Some_spec (l : List Int) (s : Int) (m : List ByteArray) (h0 : 0 ≤ s) (h1 : s ≤ 4611686018427387904) (hl : l.length ≤ 140737488351232) (hm : 1 ≤ m.length) (hm2 : m.length ≤ 1000) :
    ∃ r, Ev (fun k => pilemake_Stream_Some.f k l s m) (r, l, s + 1) ∧ r ∈ m := by
  obtain ⟨r, hr, r0, r1⟩ := Next_spec l s (m.length : Int) h0 h1 (by omega) hl
  have r2 := r1 (by omega)
  exact ⟨rdE eS m r, Ev.bind hr (Ev.pos r0 (Ev.pos r2 (Ev.now _))), rdE_mem eS m r r0 r2⟩
theorem keyed_of (s : ByteArray) (hs : s ∈ ([(⟨#[101]⟩ : ByteArray), (⟨#[112, 97, 114, 105, 115]⟩ : ByteArray), (⟨#[107, 49, 97, 98, 32, 107]⟩ : ByteArray), (⟨#[116, 101, 115, 116, 32, 116]⟩ : ByteArray), (⟨#[53, 110, 110]⟩ : ByteArray), (⟨#[97, 32, 110]⟩ : ByteArray)] : List ByteArray)) (u v : Int) (hu : 1 ≤ u ∧ u ≤ 100) (hv : 1 ≤ v ∧ v ≤ 200) :
    ∃ L, Ev (fun k => pileref1_KeyedOf.f k s u v) L ∧ KI 5 L := by
  simp only [List.mem_cons, List.not_mem_nil, or_false] at hs
  have hK : KP s u v 0 0 := by
    rcases hs with rfl | rfl | rfl | rfl | rfl | rfl
    · exact word0 u v hu hv
    · exact word1 u v hu hv
    · exact word2 u v hu hv
    · exact word3 u v hu hv
    · exact word4 u v hu hv
    · exact word5 u v hu hv
  exact hK [] 0 ⟨.inl rfl, by simp, fun x hx => (by cases hx), fun h => by omega⟩ (.inl rfl)
theorem changed_run (u : Int) (hu : 1 ≤ u ∧ u ≤ 100) (l : List Int) (hl : l.length ≤ 140737488351232) (n : Nat) (hn : n ≤ 60) (d : Nat) : ∀ (i : Nat) (L : List Int) (s : Int), i + d = n → L.length = n → (∀ (j : Nat) (h : j < L.length), 1 ≤ L[j] ∧ L[j] ≤ 1500 ∧ (i ≤ j → L[j] ≤ 1400)) → 0 ≤ s → s + 2 * d ≤ 4611686018427380000 →
    ∃ L' s', Ev (fun k => pilemake_Stream_RightKeyed.l0 k u (n : Int) (i : Int) L l s) (L', l, s') ∧ L'.length = n ∧ (∀ x ∈ L', 1 ≤ x ∧ x ≤ 1500) ∧ s ≤ s' ∧ s' ≤ s + 2 * d := by
  induction d with
  | zero =>
    intro i L s hi hL hb h0 h1
    obtain rfl : i = n := by omega
    refine ⟨L, s, Ev.step (f := fun _ => some _) (fun k => ?_) (Ev.now _), hL, fun x hx => ?_, by omega, by omega⟩
    · simp only [pilemake_Stream_RightKeyed.l0]
      rw [if_neg (by omega)]
    · obtain ⟨j, hj, rfl⟩ := List.getElem_of_mem hx
      exact ⟨(hb j hj).1, (hb j hj).2.1⟩
  | succ d ih =>
    intro i L s hi hL hb h0 h1
    have hw : wrap64 ((i : Int) + 1) = ((i + 1 : Nat) : Int) := wrap_succ (by omega)
    have hj : ∀ (L2 : List Int) (s2 : Int), (∃ L' s', Ev (fun k => pilemake_Stream_RightKeyed.l0 k u (n : Int) ((i + 1 : Nat) : Int) L2 l s2) (L', l, s') ∧ L'.length = n ∧ (∀ x ∈ L', 1 ≤ x ∧ x ≤ 1500) ∧ s2 ≤ s' ∧ s' ≤ s2 + 2 * d) →
        ∃ L' s', Ev (fun k => pilemake_Stream_RightKeyed.j8 k u (n : Int) (i : Int) L2 l s2) (L', l, s') ∧ L'.length = n ∧ (∀ x ∈ L', 1 ≤ x ∧ x ≤ 1500) ∧ s2 ≤ s' ∧ s' ≤ s2 + 2 * d := fun L2 s2 ⟨L', s', e, r⟩ =>
      ⟨L', s', Ev.step (fun k => by simp only [pilemake_Stream_RightKeyed.j8, hw]) e, r⟩
    have hil : i < L.length := by omega
    obtain ⟨f, e1⟩ := Flip_spec l s 3 h0 (by omega) (by omega) hl
    cases f with
    | true =>
      obtain ⟨r, e2, m2⟩ := Pick_spec l (s + 1) [1, (-1), wrap64 (Int.tdiv u 3), wrap64 (Int.tdiv (wrap64 (0 - u)) 3), u, wrap64 (0 - u)] (by omega) (by omega) hl (by simp) (by simp)
      have hr : -100 ≤ r ∧ r ≤ 100 := by
        have t1 : Int.tdiv u 3 = u / 3 := tdiv_pos (by omega)
        have n1 : wrap64 (0 - u) = -u := by rw [wrap_id (by omega) (by omega)]; omega
        have t2 : Int.tdiv (-u) 3 = -(u / 3) := by rw [Int.neg_tdiv, t1]
        rw [n1, t1, t2, wrap_id (by omega) (by omega), wrap_id (by omega) (by omega)] at m2
        simp only [List.mem_cons, List.not_mem_nil, or_false] at m2
        omega
      have hbi := hb i hil
      have hbi2 := hbi.2.2 (Nat.le_refl _)
      have hmx : 1 ≤ mx 1 (L[i] + r) ∧ mx 1 (L[i] + r) ≤ 1500 := by rw [mx_eq]; split <;> omega
      obtain ⟨L', s', e, r1, r2, r3, r4⟩ := hj (L.set i (mx 1 (L[i] + r))) (s + 1 + 1) (ih (i + 1) _ (s + 1 + 1) (by omega) (by simpa using hL) (fun j h => by
        by_cases c : i = j
        · subst c
          rw [List.getElem_set_self]
          exact ⟨hmx.1, hmx.2, fun h' => by omega⟩
        · rw [List.getElem_set_ne c]
          have := hb j (by simpa using h)
          exact ⟨this.1, this.2.1, fun h' => this.2.2 (by omega)⟩) (by omega) (by omega))
      refine ⟨L', s', Ev.succ ?_, r1, r2, by omega, by omega⟩
      simp only [pilemake_Stream_RightKeyed.l0]
      refine Ev.pos (by omega) (Ev.bind e1 (Ev.pos rfl (Ev.pos (by omega) (Ev.pos (by omega) (Ev.bind e2 (Ev.pos (by omega) (Ev.pos (by omega) ?_)))))))
      simp only [rd_get L i hil, wrap_id (e := L[i] + r) (by omega) (by omega), Int.toNat_natCast]
      exact e
    | false =>
      obtain ⟨L', s', e, r1, r2, r3, r4⟩ := hj L (s + 1) (ih (i + 1) L (s + 1) (by omega) hL (fun j h => by
        have := hb j h
        exact ⟨this.1, this.2.1, fun h' => this.2.2 (by omega)⟩) (by omega) (by omega))
      refine ⟨L', s', Ev.succ ?_, r1, r2, by omega, by omega⟩
      simp only [pilemake_Stream_RightKeyed.l0]
      exact Ev.pos (by omega) (Ev.bind e1 (Ev.neg Bool.false_ne_true e))
theorem sum_le (L : List Int) (b : Int) (h : ∀ x ∈ L, x ≤ b) (hb : 0 ≤ b) : L.sum ≤ b * L.length := by
  induction L with
  | nil => simp
  | cons a L ih =>
    have h1 := h a (by simp)
    have h2 := ih fun x hx => h x (by simp [hx])
    simp only [List.sum_cons, List.length_cons, Int.natCast_add, Int.mul_add]
    omega
theorem RightKeyed_spec (l : List Int) (hl : l.length ≤ 140737488351232) : ∃ L s', Ev (fun k => pilemake_Stream_RightKeyed.f k l 0) (L, l, s') ∧ L.length % 2 = 1 ∧ L.length ≤ 60 ∧ (∀ x ∈ L, 1 ≤ x ∧ x ≤ 1500) ∧ 0 ≤ s' ∧ s' ≤ 1000 := by
  obtain ⟨u, e1, m1⟩ := Pick_spec l 0 [1, 20, 60, 100] (by omega) (by omega) hl (by simp) (by simp)
  obtain ⟨w, e2, m2⟩ := Some_spec l (0 + 1) [(⟨#[101]⟩ : ByteArray), (⟨#[112, 97, 114, 105, 115]⟩ : ByteArray), (⟨#[107, 49, 97, 98, 32, 107]⟩ : ByteArray), (⟨#[116, 101, 115, 116, 32, 116]⟩ : ByteArray), (⟨#[53, 110, 110]⟩ : ByteArray), (⟨#[97, 32, 110]⟩ : ByteArray)] (by omega) (by omega) hl (by simp) (by simp)
  obtain ⟨c, e3, m3⟩ := Pick_spec l (0 + 1 + 1) [1, 1, 2] (by omega) (by omega) hl (by simp) (by simp)
  have hu : 1 ≤ u ∧ u ≤ 100 := by
    simp only [List.mem_cons, List.not_mem_nil, or_false] at m1
    omega
  have hc : c = 1 ∨ c = 2 := by
    simp only [List.mem_cons, List.not_mem_nil, or_false] at m3
    omega
  have huc : 1 ≤ u * c ∧ u * c ≤ 200 := by rcases hc with rfl | rfl <;> omega
  obtain ⟨L, e4, k0, k2, k3, k4⟩ := keyed_of w m2 u (u * c) hu huc
  have k1 : L.length % 2 = 1 := k0.resolve_left (k4 (by omega))
  obtain ⟨L', s', e5, r1, r2, r3, r4⟩ := changed_run u hu l hl L.length k2 L.length 0 L (0 + 1 + 1 + 1) (by omega) rfl (fun j h => by
    have := k3 _ (List.getElem_mem h)
    exact ⟨this.1, by omega, fun _ => this.2⟩) (by omega) (by omega)
  refine ⟨L', s', Ev.bind e1 (Ev.bind e2 (Ev.bind e3 ?_)), by omega, by omega, r2, by omega, by omega⟩
  simp only [wrap_id (e := u * c) (by omega) (by omega)]
  exact Ev.bind e4 e5
theorem CleanHasNothingShort (l : List Int) (hl : l.length ≤ 140737488351232) : ∃ k, pilekeep1_CleanHasNothingShort.f k l = some true := by
  obtain ⟨x, s, e1, x1, x2, x3, s0, s1⟩ := RightKeyed_spec l hl
  obtain ⟨least, e2, m2⟩ := Pick_spec l s [1, 5, 30, 90] (by omega) (by omega) hl (by simp) (by simp)
  have hle : 1 ≤ least ∧ least ≤ 100000 := by
    simp only [List.mem_cons, List.not_mem_nil, or_false] at m2
    omega
  have hsum := sum_le x 1500 (fun y hy => (x3 y hy).2) (by omega)
  have hR : Ev (fun k => (pilekeep1_ready.f k).bind fun r => Option.some r) true := Ev.bind ready_ev (Ev.now _)
  rcases Clean_spec x least (by omega) x1 (fun y hy => (x3 y hy).1) (by omega) hle with h | ⟨D, h, d1, d2, d3, d4⟩
  · exact (Ev.bind e1 (Ev.bind e2 (Ev.bind h (Ev.neg (by decide) (Ev.pos rfl hR))))).ex
  · obtain ⟨m, hm, hm2⟩ := Min_ge D least (by omega) (by omega) d1
    have h2 := Clean_same D least (by omega) d2 d1 (by omega) hle
    have hE := Equal_same D (by omega)
    refine (Ev.bind e1 (Ev.bind e2 (Ev.bind h (Ev.pos rfl (Ev.neg (by simp only; omega) (Ev.neg ?_ (Ev.bind hm (Ev.neg (by simp only; omega) (Ev.bind h2 (Ev.pos rfl (Ev.bind hE (Ev.pos rfl hR)))))))))))).ex
    simp only
    rw [tmod_pos (by omega)]
    omega
end Go.EV.Pure
