/- The plain law: the Lean functions answer true for every list. -/
import Derived.Test.YtfbepmnpdnekdaaGreatDoorXKeysStay
import Derived.KernelRfl
import Derived.Lib.SlTrimSet
import Derived.Lib.SplitLaws
import Derived.Lib.Join
set_option linter.unusedVariables false
set_option linter.unusedSimpArgs false
/-! Plain laws that all statements use: numbers that don't wrap, functions with fuel, loops over lists, the stream's draws. -/
namespace Go.EV.Pure
open Go Go.EV Go.RowKit
theorem wrap_id {e : Int} (h1 : -9223372036854775808 ≤ e) (h2 : e ≤ 9223372036854775807) : wrap64 e = e := by
  unfold wrap64
  omega
theorem tmod_pos {a n : Int} (h : 0 ≤ a) : a.tmod n = a % n := Int.tmod_eq_emod_of_nonneg h
theorem tdiv_pos {a n : Int} (h : 0 ≤ a) : a.tdiv n = a / n := Int.tdiv_eq_ediv_of_nonneg h
theorem mx_eq (a b : Int) : mx a b = if a < b then b else a := rfl
theorem mn_eq (a b : Int) : mn a b = if b < a then b else a := rfl
theorem rd_get (l : List Int) (i : Nat) (h : i < l.length) : rd l (i : Int) = l[i] := by
  simp [rd, List.getD, List.getElem?_eq_getElem h]
theorem rdE_get {α : Type} (E : Enc α) (l : List α) (i : Nat) (h : i < l.length) : rdE E l (i : Int) = l[i] := by
  simp [rdE, List.getD, List.getElem?_eq_getElem h]
theorem rd_mem (l : List Int) (i : Int) (h0 : 0 ≤ i) (h1 : i < l.length) : rd l i ∈ l := by
  have h : i.toNat < l.length := by omega
  have : rd l i = l[i.toNat] := by simp [rd, List.getD, List.getElem?_eq_getElem h]
  rw [this]
  exact List.getElem_mem h
theorem rdE_mem {α : Type} (E : Enc α) (l : List α) (i : Int) (h0 : 0 ≤ i) (h1 : i < l.length) : rdE E l i ∈ l := by
  have h : i.toNat < l.length := by omega
  have : rdE E l i = l[i.toNat] := by simp [rdE, List.getD, List.getElem?_eq_getElem h]
  rw [this]
  exact List.getElem_mem h
theorem wrap_succ {i : Nat} (h : i ≤ 1000000000000000) : wrap64 ((i : Int) + 1) = ((i + 1 : Nat) : Int) := by rw [wrap_id (by omega) (by omega)]; omega

/-- From some fuel on the function answers v. -/
def Ev {α : Type} (f : Nat → Option α) (v : α) : Prop := ∃ K, ∀ k, K ≤ k → f k = some v
section
variable {α β : Type}
theorem Ev.now (v : α) : Ev (fun _ => some v) v := ⟨0, fun _ _ => rfl⟩
theorem Ev.of {f : Nat → Option α} {v : α} (h : ∀ k, f k = some v) : Ev f v := ⟨0, fun k _ => h k⟩
theorem Ev.from {f : Nat → Option α} {v : α} (n : Nat) (h : ∀ k, f (k + n) = some v) : Ev f v := ⟨n, fun k hk => by
  obtain ⟨m, rfl⟩ : ∃ m, k = m + n := ⟨k - n, by omega⟩
  exact h m⟩
theorem Ev.bind {f : Nat → Option α} {a : α} {g : Nat → α → Option β} {v : β} (h : Ev f a) (h2 : Ev (fun k => g k a) v) : Ev (fun k => (f k).bind (g k)) v := by
  obtain ⟨K, h⟩ := h
  obtain ⟨K2, h2⟩ := h2
  exact ⟨max K K2, fun k hk => by show (f k).bind (g k) = some v; rw [h k (by omega)]; exact h2 k (by omega)⟩
theorem Ev.step {g f : Nat → Option α} {v : α} (h : ∀ k, g (k + 1) = f k) (h2 : Ev f v) : Ev g v := by
  obtain ⟨K, h2⟩ := h2
  exact ⟨K + 1, fun k hk => by
    obtain ⟨m, rfl⟩ : ∃ m, k = m + 1 := ⟨k - 1, by omega⟩
    rw [h m]; exact h2 m (by omega)⟩
theorem Ev.succ {g : Nat → Option α} {v : α} (h : Ev (fun k => g (k + 1)) v) : Ev g v := Ev.step (fun _ => rfl) h
theorem Ev.congr {f g : Nat → Option α} {v : α} (h : ∀ k, f k = g k) (h2 : Ev g v) : Ev f v := by
  obtain ⟨K, h2⟩ := h2
  exact ⟨K, fun k hk => (h k).trans (h2 k hk)⟩
theorem Ev.ex {f : Nat → Option α} {v : α} (h : Ev f v) : ∃ k, f k = some v := let ⟨K, h⟩ := h; ⟨K, h K (Nat.le_refl _)⟩
theorem Ev.ite {p : Prop} [Decidable p] {f g : Nat → Option α} {v : α} (h1 : p → Ev f v) (h2 : ¬ p → Ev g v) : Ev (fun k => if p then f k else g k) v := by
  by_cases c : p
  · simp only [if_pos c]; exact h1 c
  · simp only [if_neg c]; exact h2 c
theorem Ev.pos {p : Prop} [Decidable p] {f g : Nat → Option α} {v : α} (c : p) (h1 : Ev f v) : Ev (fun k => if p then f k else g k) v := by simp only [if_pos c]; exact h1
theorem Ev.neg {p : Prop} [Decidable p] {f g : Nat → Option α} {v : α} (c : ¬ p) (h1 : Ev g v) : Ev (fun k => if p then f k else g k) v := by simp only [if_neg c]; exact h1

/-- A loop over a list by its index: what holds of its state carries over each round, or the round is the last one. -/
theorem loop {σ ρ : Type} (l : List α) (F : Nat → Int → σ → Option ρ) (I : Nat → σ → Prop) (post : ρ → Prop)
    (hstep : ∀ (i : Nat) (s : σ), i < l.length → I i s → (∃ s', I (i + 1) s' ∧ ∀ v, Ev (fun k => F k ((i + 1 : Nat) : Int) s') v → Ev (fun k => F k (i : Int) s) v) ∨ ∃ v, post v ∧ Ev (fun k => F k (i : Int) s) v)
    (hend : ∀ s, I l.length s → ∃ v, post v ∧ Ev (fun k => F k (l.length : Int) s) v) :
    ∀ (i : Nat) (s : σ), i ≤ l.length → I i s → ∃ v, post v ∧ Ev (fun k => F k (i : Int) s) v := by
  intro i
  generalize hd : l.length - i = d
  induction d generalizing i with
  | zero =>
    intro s hi hI
    obtain rfl : i = l.length := by omega
    exact hend s hI
  | succ d ih =>
    intro s hi hI
    rcases hstep i s (by omega) hI with ⟨s', h1, h2⟩ | h
    · obtain ⟨v, h3, h4⟩ := ih (i + 1) (by omega) s' (by omega) h1
      exact ⟨v, h3, h2 v h4⟩
    · exact h
end
end Go.EV.Pure
namespace Go.EV.Pure
open Go Go.EV Go.RowKit
set_option linter.unusedSimpArgs false
/-! Strings as lists of bytes. -/
def eB : ByteArray := ⟨#[]⟩
def mk (p : List UInt8) : ByteArray := ⟨p.toArray⟩
theorem mk_size (p : List UInt8) : (mk p).size = p.length := by simp [mk, ByteArray.size]
theorem mk_of (s : ByteArray) : s = mk s.data.toList := by
  apply ByteArray.ext
  simp [mk]
theorem mk_append (p q : List UInt8) : mk p ++ mk q = mk (p ++ q) := by
  apply ByteArray.ext
  simp [mk]
theorem mk_extract (p : List UInt8) (i j : Nat) : (mk p).extract i j = mk ((p.take j).drop i) := by
  apply ByteArray.ext
  simp only [mk, ByteArray.data_extract]
  apply Array.ext'
  simp [List.extract_eq_take_drop, List.drop_take]
theorem mk_bt (p : List UInt8) (i : Nat) (h : i < p.length) : bt (mk p) (i : Int) = (p[i].toNat : Int) := by
  unfold bt
  have hs : (Int.toNat (i : Int)) < (mk p).size := by simpa [mk_size] using h
  rw [dif_pos hs]
  have : (mk p)[Int.toNat (i : Int)]'hs = p[i] := by
    show (p.toArray)[Int.toNat (i : Int)]'_ = _
    simp only [Int.toNat_natCast, List.getElem_toArray]
    rfl
  rw [this]
  rfl
theorem all_bytes {P : UInt8 → Prop} (h : ∀ n : Fin 256, P (UInt8.ofNat n.val)) (b : UInt8) : P b := by
  have := h ⟨b.toNat, UInt8.toNat_lt b⟩
  simpa using this
end Go.EV.Pure
namespace Go.EV.Pure
open Go Go.EV Go.RowKit
theorem Below_j (x : Int) : Ev (fun k => pilemake_Below.j6 k x) x := Ev.from 1 fun k => rfl
theorem Below_spec (x n : Int) (hn : n ≤ 9223372036854775807) : ∃ r, Ev (fun k => pilemake_Below.f k x n) r ∧ 0 ≤ r ∧ (1 ≤ n → r < n) ∧ (n < 1 → r = 0) := by
  unfold pilemake_Below.f
  by_cases h : n < 1
  · simp only [if_pos h]
    exact ⟨0, Ev.now _, by omega, by omega, fun _ => rfl⟩
  · simp only [if_neg h, if_neg (show ¬ n = 0 by omega)]
    have hm := Int.natAbs_tmod x n
    have hm2 := Nat.mod_lt x.natAbs (show n.natAbs > 0 by omega)
    have h1 : x.tmod n < n := by omega
    have h2 : -n < x.tmod n := by omega
    by_cases h3 : x.tmod n < 0
    · simp only [if_pos h3]
      refine ⟨_, Below_j _, ?_, ?_, ?_⟩ <;> rw [wrap_id (by omega) (by omega)] <;> omega
    · simp only [if_neg h3]
      exact ⟨_, Below_j _, by omega, by omega, by omega⟩
theorem Next_spec (l : List Int) (s n : Int) (h0 : 0 ≤ s) (h1 : s ≤ 4611686018427387904) (hn : n ≤ 9223372036854775807) (hl : l.length ≤ 140737488351232) :
    ∃ r, Ev (fun k => pilemake_Stream_Next.f k l s n) (r, l, s + 1) ∧ 0 ≤ r ∧ (1 ≤ n → r < n) := by
  unfold pilemake_Stream_Next.f
  have hs : wrap64 (s + 1) = s + 1 := wrap_id (by omega) (by omega)
  have hs2 : wrap64 (s + 1 - 1) = s := by rw [wrap_id (by omega) (by omega)]; omega
  simp only [hs, hs2]
  by_cases h : (l.length : Int) = 0
  · simp only [if_pos h]
    obtain ⟨r, hr, r0, r1, _⟩ := Below_spec (wrap64 ((s + 1) * 7919)) n hn
    exact ⟨r, Ev.bind hr (Ev.now _), r0, r1⟩
  · have e : Int.tmod s (l.length : Int) = s % (l.length : Int) := Int.tmod_eq_emod_of_nonneg h0
    have m0 : 0 ≤ s % (l.length : Int) := Int.emod_nonneg _ h
    have m1 : s % (l.length : Int) < (l.length : Int) := Int.emod_lt_of_pos _ (by omega)
    simp only [if_neg h, e, if_pos m0, if_pos m1]
    obtain ⟨a, ha, _⟩ := Below_spec (rd l (s % (l.length : Int))) 1073741824 (by omega)
    obtain ⟨r, hr, r0, r1, _⟩ := Below_spec (wrap64 (a + wrap64 (wrap64 (Int.tdiv s (l.length : Int)) * wrap64 (7919 + s % (l.length : Int))))) n hn
    exact ⟨r, Ev.bind ha (Ev.bind hr (Ev.now _)), r0, r1⟩
theorem Pick_spec (l : List Int) (s : Int) (m : List Int) (h0 : 0 ≤ s) (h1 : s ≤ 4611686018427387904) (hl : l.length ≤ 140737488351232) (hm : 1 ≤ m.length) (hm2 : m.length ≤ 1000) :
    ∃ r, Ev (fun k => pilemake_Stream_Pick.f k l s m) (r, l, s + 1) ∧ r ∈ m := by
  obtain ⟨r, hr, r0, r1⟩ := Next_spec l s (m.length : Int) h0 h1 (by omega) hl
  have r2 := r1 (by omega)
  exact ⟨rd m r, Ev.bind hr (Ev.pos r0 (Ev.pos r2 (Ev.now _))), rd_mem m r r0 r2⟩
theorem Flip_spec (l : List Int) (s n : Int) (h0 : 0 ≤ s) (h1 : s ≤ 4611686018427387904) (hn : n ≤ 9223372036854775807) (hl : l.length ≤ 140737488351232) :
    ∃ b, Ev (fun k => pilemake_Stream_Flip.f k l s n) (b, l, s + 1) := by
  obtain ⟨r, hr, _⟩ := Next_spec l s n h0 h1 hn hl
  exact ⟨decide (r = 0), Ev.bind hr (Ev.now _)⟩
end Go.EV.Pure
namespace Go.EV.Pure
open Go Go.EV Go.RowKit
set_option linter.unusedSimpArgs false
set_option maxRecDepth 100000
/-! Strings that the stream draws: of ASCII, and short. -/
theorem Some_spec (l : List Int) (s : Int) (m : List ByteArray) (h0 : 0 ≤ s) (h1 : s ≤ 4611686018427387904) (hl : l.length ≤ 140737488351232) (hm : 1 ≤ m.length) (hm2 : m.length ≤ 1000) :
    ∃ r, Ev (fun k => pilemake_Stream_Some.f k l s m) (r, l, s + 1) ∧ r ∈ m := by
  obtain ⟨r, hr, r0, r1⟩ := Next_spec l s (m.length : Int) h0 h1 (by omega) hl
  have r2 := r1 (by omega)
  exact ⟨rdE eS m r, Ev.bind hr (Ev.pos r0 (Ev.pos r2 (Ev.now _))), rdE_mem eS m r r0 r2⟩
end Go.EV.Pure
namespace Go.EV.Pure
open Go Go.EV Go.RowKit
set_option maxRecDepth 100000
theorem ready_ev : Ev (fun k => pilekeep1_ready.f k) true := Ev.from 300 fun k => (by kernel_rfl : pilekeep1_ready.f (k + 300) = some true)
end Go.EV.Pure
namespace Go.EV.Pure
open Go Go.EV Go.RowKit
theorem Equal_same (D : List Int) (hl : D.length ≤ 20000) : Ev (fun k => slices_Equal_int_int.f k D D) true := by
  obtain ⟨v, rfl, hv⟩ := loop D (fun k i (_ : Unit) => slices_Equal_int_int.l0 k D D i) (fun _ _ => True) (fun v => v = true)
    (fun i _ hi _ => .inl ⟨(), trivial, fun v hv => Ev.step (fun k => by
      simp only [slices_Equal_int_int.l0]
      rw [if_pos (by omega), if_pos (by omega), if_pos (by omega), if_pos (by omega), if_pos (by omega), if_pos trivial, wrap_succ (by omega)]) hv⟩)
    (fun _ _ => ⟨true, rfl, Ev.step (f := fun _ => some _) (fun k => by simp only [slices_Equal_int_int.l0]; rw [if_neg (by omega)]) (Ev.now _)⟩) 0 () (by omega) trivial
  unfold slices_Equal_int_int.f
  exact Ev.pos rfl hv
end Go.EV.Pure
namespace Go.EV.Pure
open Go Go.EV Go.RowKit
set_option linter.unusedSimpArgs false
set_option maxRecDepth 100000
/-! The table of codes, words, and what can be said. -/
theorem index_hit (p rest : List UInt8) (h : (32 : UInt8) ∉ p) : Lib.index (p ++ 32 :: rest) [32] = (p.length : Int) := by
  induction p with
  | nil => simp [Lib.index, List.isPrefixOf]
  | cons b p ih =>
    have ih := ih (fun h' => h (by simp [h']))
    have hb : ¬ (32 : UInt8) = b := fun e => h (by simp [e])
    simp only [List.cons_append, Lib.index, List.isPrefixOf, beq_iff_eq, ih]
    have : ((32 : UInt8) == b) = false := by simpa using hb
    rw [this]
    simp <;> omega
theorem index_miss (p : List UInt8) (h : (32 : UInt8) ∉ p) : Lib.index p [32] = -1 := by
  induction p with
  | nil => simp [Lib.index]
  | cons b p ih =>
    have ih := ih (fun h' => h (by simp [h']))
    have hb : ¬ (32 : UInt8) = b := fun e => h (by simp [e])
    have : ((32 : UInt8) == b) = false := by simpa using hb
    simp only [Lib.index, List.isPrefixOf, ih, this]
    simp
def joinSp : List (List UInt8) → List UInt8
  | [] => []
  | [p] => p
  | p :: q :: r => p ++ 32 :: joinSp (q :: r)
theorem ext_head (p rest : List UInt8) : (mk (p ++ 32 :: rest)).extract 0 p.length = mk p := by
  rw [mk_extract]
  simp
theorem ext_tail (p rest : List UInt8) : (mk (p ++ 32 :: rest)).extract (p.length + 1) (mk (p ++ 32 :: rest)).size = mk rest := by
  rw [mk_extract, mk_size, List.take_length]
  congr 1
  rw [List.drop_append, List.drop_eq_nil_of_le (by omega), List.nil_append, Nat.add_sub_cancel_left]
  rfl
theorem split_all (sp : ByteArray) (hsp : sp = mk [32]) : ∀ (q : List UInt8) (r : List (List UInt8)), (∀ p ∈ q :: r, (32 : UInt8) ∉ p) → Lib.countB (mk (joinSp (q :: r))) sp = r.length ∧ Lib.splitB sp 0 r.length (mk (joinSp (q :: r))) = (q :: r).map mk
  | q, [], h => by
    subst hsp
    refine ⟨?_, rfl⟩
    exact Lib.countB_miss _ _ (index_miss q (h q (by simp)))
  | q, p :: r, h => by
    obtain ⟨h1, h2⟩ := split_all sp hsp p r (fun x hx => h x (by simp [List.mem_cons.1 hx]))
    subst hsp
    have hi : Lib.indexB (mk (joinSp (q :: p :: r))) (mk [32]) = ((q.length : Nat) : Int) := index_hit q _ (h q (by simp))
    have hs : (mk [32]).size = 1 := rfl
    have hj : joinSp (q :: p :: r) = q ++ 32 :: joinSp (p :: r) := rfl
    constructor
    · rw [Lib.countB_hit _ _ q.length (by rw [hs]; omega) hi, hs, hj, ext_tail, h1]
      simp
      omega
    · rw [List.length_cons, Lib.splitB_hit _ _ _ _ q.length hi, hs, hj, Nat.add_zero, ext_head, ext_tail, h2]
      rfl
theorem dec_at (p : List UInt8) (j : Nat) (h : j < p.length) (ha : p[j].toNat < 128) : Utf8.decode (mk p) j = (p[j].toNat, 1) :=
  decode_ascii (mk p) j (by rw [mk_size]; exact h) ha
/-- A text's words. -/
def wordsOf : List UInt8 → List (List UInt8)
  | [] => [[]]
  | b :: r => if b = 32 then [] :: wordsOf r else match wordsOf r with
    | [] => [[b]]
    | w :: q => (b :: w) :: q
theorem wordsOf_ne (p : List UInt8) : ∃ w q, wordsOf p = w :: q := by
  cases p with
  | nil => exact ⟨_, _, rfl⟩
  | cons b r =>
    unfold wordsOf
    split
    · exact ⟨_, _, rfl⟩
    · split
      · exact ⟨_, _, rfl⟩
      · exact ⟨_, _, rfl⟩
theorem joinSp_words : ∀ p : List UInt8, joinSp (wordsOf p) = p
  | [] => rfl
  | b :: r => by
    have ih := joinSp_words r
    obtain ⟨w, q, hw⟩ := wordsOf_ne r
    unfold wordsOf
    by_cases c : b = 32
    · rw [if_pos c, hw]
      rw [hw] at ih
      show [] ++ 32 :: joinSp (w :: q) = _
      rw [ih, c]; rfl
    · rw [if_neg c, hw]
      rw [hw] at ih
      cases q with
      | nil => show b :: w = _; rw [← ih]; rfl
      | cons x y => show (b :: w) ++ 32 :: joinSp (x :: y) = _; rw [← ih]; rfl
theorem words_no32 : ∀ (p : List UInt8), ∀ w ∈ wordsOf p, (32 : UInt8) ∉ w
  | [] => fun w hw => by
    have : w = [] := by simpa [wordsOf] using hw
    rw [this]; simp
  | b :: r => fun w hw => by
    have ih := words_no32 r
    obtain ⟨v, q, hv⟩ := wordsOf_ne r
    unfold wordsOf at hw
    by_cases c : b = 32
    · rw [if_pos c] at hw
      rcases List.mem_cons.1 hw with rfl | hw
      · simp
      · exact ih w hw
    · rw [if_neg c, hv] at hw
      rw [hv] at ih
      rcases List.mem_cons.1 hw with rfl | hw
      · intro hm
        rcases List.mem_cons.1 hm with h | h
        · exact c h.symm
        · exact ih v (by simp) h
      · exact ih w (by simp [hw])
theorem words_bytes : ∀ (p : List UInt8) (b : UInt8), b ≠ 32 → (b ∈ p ↔ ∃ w ∈ wordsOf p, b ∈ w)
  | [], b, hb => by simp [wordsOf]
  | a :: r, b, hb => by
    have ih := words_bytes r b hb
    obtain ⟨v, q, hv⟩ := wordsOf_ne r
    unfold wordsOf
    by_cases c : a = 32
    · rw [if_pos c]
      constructor
      · intro h
        rcases List.mem_cons.1 h with rfl | h
        · exact absurd c hb
        · obtain ⟨w, h1, h2⟩ := ih.1 h
          exact ⟨w, by simp [h1], h2⟩
      · rintro ⟨w, h1, h2⟩
        rcases List.mem_cons.1 h1 with rfl | h1
        · cases h2
        · exact List.mem_cons_of_mem _ (ih.2 ⟨w, h1, h2⟩)
    · rw [if_neg c, hv]
      rw [hv] at ih
      constructor
      · intro h
        rcases List.mem_cons.1 h with rfl | h
        · exact ⟨b :: v, by simp, by simp⟩
        · obtain ⟨w, h1, h2⟩ := ih.1 h
          rcases List.mem_cons.1 h1 with rfl | h1
          · exact ⟨a :: w, by simp, by simp [h2]⟩
          · exact ⟨w, by simp [h1], h2⟩
      · rintro ⟨w, h1, h2⟩
        rcases List.mem_cons.1 h1 with rfl | h1
        · rcases List.mem_cons.1 h2 with rfl | h2
          · simp
          · exact List.mem_cons_of_mem _ (ih.2 ⟨v, by simp, h2⟩)
        · exact List.mem_cons_of_mem _ (ih.2 ⟨w, by simp [h1], h2⟩)
theorem words_sum : ∀ p : List UInt8, ((wordsOf p).map fun w => w.length + 1).sum = p.length + 1
  | [] => rfl
  | b :: r => by
    have ih := words_sum r
    obtain ⟨v, q, hv⟩ := wordsOf_ne r
    unfold wordsOf
    by_cases c : b = 32
    · rw [if_pos c]
      simp only [List.map_cons, List.sum_cons, ih, List.length_cons, List.length_nil]
      omega
    · rw [if_neg c, hv]
      rw [hv] at ih
      simp only [List.map_cons, List.sum_cons, List.length_cons] at ih ⊢
      omega
def signsL : List UInt8 := [97, 98, 99, 100, 101, 102, 103, 104, 105, 106, 107, 108, 109, 110, 111, 112, 113, 114, 115, 116, 117, 118, 119, 120, 121, 122, 48, 49, 50, 51, 52, 53, 54, 55, 56, 57, 47, 63, 61, 43]
def codesL : List (List UInt8) := [[46, 45], [45, 46, 46, 46], [45, 46, 45, 46], [45, 46, 46], [46], [46, 46, 45, 46], [45, 45, 46], [46, 46, 46, 46], [46, 46], [46, 45, 45, 45], [45, 46, 45], [46, 45, 46, 46], [45, 45], [45, 46], [45, 45, 45], [46, 45, 45, 46], [45, 45, 46, 45], [46, 45, 46], [46, 46, 46], [45], [46, 46, 45], [46, 46, 46, 45], [46, 45, 45], [45, 46, 46, 45], [45, 46, 45, 45], [45, 45, 46, 46], [45, 45, 45, 45, 45], [46, 45, 45, 45, 45], [46, 46, 45, 45, 45], [46, 46, 46, 45, 45], [46, 46, 46, 46, 45], [46, 46, 46, 46, 46], [45, 46, 46, 46, 46], [45, 45, 46, 46, 46], [45, 45, 45, 46, 46], [45, 45, 45, 45, 46], [45, 46, 46, 45, 46], [46, 46, 45, 45, 46, 46], [45, 46, 46, 46, 45], [46, 45, 46, 45, 46]]
/-- A byte's place among the signs; 40: it is none. -/
def placeN (b : UInt8) : Nat := signsL.findIdx (· == b)
def isSign (b : UInt8) : Bool := Nat.blt (placeN b) 40
/-- The code of a byte; empty: it is no sign. -/
def codeL (b : UInt8) : List UInt8 := codesL.getD (placeN b) []
theorem code_facts : ∀ b : UInt8, (isSign b = true → codeL b ≠ []) ∧ (isSign b = false → codeL b = []) ∧ (codeL b).length ≤ 6 ∧ (∀ c ∈ codeL b, c.toNat < 128) ∧ isSign b = signsL.contains b ∧ (isSign b = true → b.toNat < 128 ∧ b ≠ 32) := all_bytes (by decide +kernel)
theorem codesL_len : codesL.length = 40 := rfl
theorem indexByte_find (c : UInt8) : ∀ p : List UInt8, c ∈ p → Lib.indexByte p c = (p.findIdx (· == c) : Nat)
  | [], h => by cases h
  | b :: r, h => by
    rw [Lib.indexByte, List.findIdx_cons]
    by_cases e : (b == c) = true
    · rw [if_pos e, e]; rfl
    · have e' : (b == c) = false := by simpa using e
      have hm : c ∈ r := by
        rcases List.mem_cons.1 h with h | h
        · exact absurd (by simp [h]) e
        · exact h
      have ih := indexByte_find c r hm
      rw [if_neg e, e', ih]
      have : (((List.findIdx (fun x => x == c) r : Nat) : Int) == -1) = false := by simp
      rw [this]
      simp
theorem sign_mem {b : UInt8} (h : isSign b = true) : b ∈ signsL := by
  have := (code_facts b).2.2.2.2.1
  rw [h] at this
  simpa using this.symm
theorem place_lt {b : UInt8} (h : isSign b = true) : placeN b < 40 := by
  unfold isSign at h
  simpa using h
/-! The document's table. -/
theorem splitCodes : strings_Split.f str_0 (⟨#[32]⟩ : ByteArray) = some (codesL.map mk) := by
  have e : str_0 = mk (joinSp codesL) := by
    apply ByteArray.ext
    rfl
  obtain ⟨h1, h2⟩ := split_all (⟨#[32]⟩ : ByteArray) rfl [46, 45] codesL.tail (by decide)
  have hl : ([46, 45] : List UInt8) :: codesL.tail = codesL := rfl
  rw [hl] at h1 h2
  unfold strings_Split.f
  rw [e, h1, h2, if_pos ⟨by rw [mk_size]; decide, by decide⟩]
theorem CodesOf_ev : ∃ R : List (ByteArray × ByteArray), Ev (fun k => pileref1_CodesOf.f k) R ∧ R.length = 40 ∧ ∀ (j : Nat) (h : j < R.length), R[j] = (mk [signsL.getD j 0], mk (codesL.getD j [])) := by
  have h1 : (str_1.size : Int) = 40 := rfl
  have hx : ∀ j : Fin 40, str_1.extract j.val (j.val + 1) = mk [signsL.getD j.val 0] := by decide +kernel
  obtain ⟨v, hv, he⟩ := loop (codesL.map mk) (fun k i (o : List (ByteArray × ByteArray)) => pileref1_CodesOf.l0 k (codesL.map mk) ((codesL.map mk).length : Int) i o)
    (fun i o => o.length = i ∧ ∀ (j : Nat) (h : j < o.length), o[j] = (mk [signsL.getD j 0], mk (codesL.getD j []))) (fun R => R.length = 40 ∧ ∀ (j : Nat) (h : j < R.length), R[j] = (mk [signsL.getD j 0], mk (codesL.getD j [])))
    (fun i o hi ⟨i1, i2⟩ => .inl ⟨o ++ [(mk [signsL.getD i 0], mk (codesL.getD i []))], ⟨by simp; omega, fun j h => by
      by_cases c : j < o.length
      · rw [List.getElem_append_left c]; exact i2 j c
      · have : j = o.length := by simp at h; omega
        subst this
        simp [i1]⟩, fun v hv => Ev.step (fun k => by
      have hlen : (codesL.map mk).length = 40 := rfl
      have hr : rdE eS (codesL.map mk) (i : Int) = mk (codesL.getD i []) := by rw [rdE_get eS _ i hi]; simp [List.getD, show i < codesL.length by rw [codesL_len]; omega]
      have hx2 := hx ⟨i, by omega⟩
      simp only at hx2
      simp only [pileref1_CodesOf.l0, hr, wrap_succ (show i ≤ 1000000000000000 by omega), h1, Int.toNat_natCast, hx2]
      rw [if_pos (by omega), if_pos (by omega), if_pos (by omega), if_pos (by omega), if_pos (by omega), if_pos (by omega), if_pos (by omega), if_pos (by simp; omega)]) hv⟩)
    (fun o ⟨i1, i2⟩ => ⟨o, ⟨i1, i2⟩, Ev.step (f := fun _ => some _) (fun k => by simp only [pileref1_CodesOf.l0]; rw [if_neg (by omega)]) (Ev.now _)⟩) 0 [] (by simp) ⟨rfl, fun j h => by simp at h⟩
  refine ⟨v, ?_, hv⟩
  unfold pileref1_CodesOf.f
  simp only [splitCodes, Option.bind_some]
  exact he
theorem codeOf_ev (b : UInt8) (h : isSign b = true) : Ev (fun k => pileref1_codeOf.f k (b.toNat : Int)) (mk (codeL b)) := by
  obtain ⟨R, hR, hl, hp⟩ := CodesOf_ev
  have hi := place_lt h
  unfold pileref1_codeOf.f
  refine Ev.bind hR ?_
  have hs : strings_IndexByte.f str_1 (b.toNat : Int) = some (placeN b : Int) := by
    unfold strings_IndexByte.f
    have e : str_1.data.toList = signsL := rfl
    have e2 : ((b.toNat : Int)).toNat.toUInt8 = b := by simp
    rw [e, e2, indexByte_find b signsL (sign_mem h)]
    rfl
  simp only [hs, Option.bind_some]
  refine Ev.pos (by omega) (Ev.pos (by omega) ?_)
  rw [rdE_get e_SS R (placeN b) (by omega), hp (placeN b) (by omega)]
  exact Ev.now _
/-! The program's table. -/
end Go.EV.Pure
namespace Go.EV.Pure
open Go Go.EV Go.RowKit
set_option linter.unusedSimpArgs false
set_option maxRecDepth 100000
/-! What can be said: both faults are the same. -/
def badW (p : List UInt8) : Bool := (wordsOf p).any List.isEmpty
def allS (p : List UInt8) : Bool := (wordsOf p).all fun w => w.all isSign
def saidF (p : List UInt8) : Int := if p.length > 500 then 2 else if badW p = true then 3 else if allS p = true then 0 else 3
theorem all_signs (p : List UInt8) : allS p = p.all fun b => isSign b || b == 32 := by
  rw [Bool.eq_iff_iff, allS, List.all_eq_true, List.all_eq_true]
  constructor
  · intro h b hb
    by_cases c : b = 32
    · simp [c]
    · obtain ⟨w, h1, h2⟩ := (words_bytes p b c).1 hb
      have := h w h1
      rw [List.all_eq_true] at this
      rw [this b h2]; rfl
  · intro h w hw
    rw [List.all_eq_true]
    intro b hb
    have h32 : b ≠ 32 := fun e => words_no32 p w hw (e ▸ hb)
    have := h b ((words_bytes p b h32).2 ⟨w, hw, hb⟩)
    simpa [h32] using this
end Go.EV.Pure
namespace Go.EV.Pure
open Go Go.EV Go.RowKit
set_option linter.unusedSimpArgs false
set_option maxRecDepth 100000
/-! Marks and gaps: what is keyed, in both ways. -/
def mrk (u : Int) (c : UInt8) : Int := if c = 45 then 3 * u else u
def tailE (u : Int) (l : List UInt8) : List Int := l.flatMap fun c => [u, mrk u c]
def elE (u : Int) : List UInt8 → List Int
  | [] => []
  | a :: r => mrk u a :: tailE u r
def tailW (u s : Int) (l : List UInt8) : List Int := l.flatMap fun b => 3 * s :: elE u (codeL b)
def elW (u s : Int) : List UInt8 → List Int
  | [] => []
  | a :: r => elE u (codeL a) ++ tailW u s r
def tailT (u s : Int) (l : List (List UInt8)) : List Int := l.flatMap fun w => 7 * s :: elW u s w
def elT (u s : Int) : List (List UInt8) → List Int
  | [] => []
  | a :: r => elW u s a ++ tailT u s r
theorem elE_len (u : Int) (c : List UInt8) : (elE u c).length ≤ 2 * c.length := by
  cases c with
  | nil => simp [elE]
  | cons a r =>
    have : (tailE u r).length = 2 * r.length := by
      unfold tailE
      induction r with
      | nil => rfl
      | cons b r ih => simp only [List.flatMap_cons, List.length_append, ih, List.length_cons, List.length_nil]; omega
    simp only [elE, List.length_cons, this]
    omega
theorem elC_len (u : Int) (b : UInt8) : (elE u (codeL b)).length ≤ 12 := by
  have := elE_len u (codeL b)
  have := (code_facts b).2.2.1
  omega
theorem elW_len (u s : Int) (w : List UInt8) : (elW u s w).length ≤ 13 * w.length := by
  cases w with
  | nil => simp [elW]
  | cons a r =>
    have : (tailW u s r).length ≤ 13 * r.length := by
      unfold tailW
      induction r with
      | nil => exact Nat.le_refl _
      | cons b r ih => have := elC_len u b; simp only [List.flatMap_cons, List.length_append, List.length_cons]; omega
    have := elC_len u a
    simp only [elW, List.length_append, List.length_cons]
    omega
theorem elT_len (u s : Int) (W : List (List UInt8)) : (elT u s W).length ≤ 13 * (W.map fun w => w.length + 1).sum := by
  cases W with
  | nil => simp [elT]
  | cons a r =>
    have : (tailT u s r).length ≤ 13 * (r.map fun w => w.length + 1).sum := by
      unfold tailT
      induction r with
      | nil => exact Nat.le_refl _
      | cons b r ih => have := elW_len u s b; simp only [List.flatMap_cons, List.length_append, List.length_cons, List.map_cons, List.sum_cons]; omega
    have := elW_len u s a
    simp only [elT, List.length_append, List.map_cons, List.sum_cons]
    omega
end Go.EV.Pure
namespace Go.EV.Pure
open Go Go.EV Go.RowKit
set_option linter.unusedSimpArgs false
set_option maxRecDepth 100000
/-! The document's way to key. -/
def KO (u s : Int) : Int → List Int → List UInt8 → List Int
  | _, o, [] => o
  | g, o, b :: r => if b = 32 then KO u s (7 * s) o r else KO u s (3 * s) (if o = [] then elE u (codeL b) else o ++ g :: elE u (codeL b)) r
theorem elE_ne {u : Int} {c : List UInt8} (h : c ≠ []) : elE u c ≠ [] := by
  cases c with
  | nil => exact absurd rfl h
  | cons a r => simp [elE]
theorem KO_tail (u s : Int) : ∀ (w rest : List UInt8) (o : List Int), o ≠ [] → (∀ b ∈ w, isSign b = true) → KO u s (3 * s) o (w ++ rest) = KO u s (3 * s) (o ++ tailW u s w) rest
  | [], rest, o, _, _ => by simp [tailW]
  | b :: w, rest, o, ho, h => by
    have hb := (code_facts b).2.2.2.2.2 (h b (by simp))
    rw [List.cons_append, KO, if_neg hb.2, if_neg ho, KO_tail u s w rest _ (by simp) (fun c hc => h c (by simp [hc]))]
    simp [tailW]
theorem KO_word (u s : Int) (w rest : List UInt8) (hw : w ≠ []) (g : Int) (o : List Int) (h : ∀ b ∈ w, isSign b = true) : KO u s g o (w ++ rest) = KO u s (3 * s) (if o = [] then elW u s w else o ++ g :: elW u s w) rest ∧ (if o = [] then elW u s w else o ++ g :: elW u s w) ≠ [] := by
  cases w with
  | nil => exact absurd rfl hw
  | cons b w =>
    have hb := (code_facts b).2.2.2.2.2 (h b (by simp))
    have hc := (code_facts b).1 (h b (by simp))
    have he := elE_ne (u := u) hc
    constructor
    · rw [List.cons_append, KO, if_neg hb.2]
      by_cases c : o = []
      · rw [if_pos c, if_pos c, KO_tail u s w rest _ he (fun c hc => h c (by simp [hc]))]; rfl
      · rw [if_neg c, if_neg c, KO_tail u s w rest _ (by simp) (fun c hc => h c (by simp [hc]))]; simp [elW]
    · by_cases c : o = []
      · rw [if_pos c]; simp [elW, he]
      · rw [if_neg c]; simp
theorem KO_text (u s : Int) : ∀ (q : List (List UInt8)) (w : List UInt8) (g : Int) (o : List Int), (∀ x ∈ w :: q, x ≠ [] ∧ ∀ b ∈ x, isSign b = true) →
    KO u s g o (joinSp (w :: q)) = if o = [] then elT u s (w :: q) else o ++ g :: elT u s (w :: q)
  | [], w, g, o, h => by
    obtain ⟨h1, h2⟩ := h w (by simp)
    obtain ⟨e, _⟩ := KO_word u s w [] h1 g o h2
    rw [List.append_nil] at e
    show KO u s g o w = _
    rw [e]
    simp [KO, elT, tailT]
  | v :: q, w, g, o, h => by
    obtain ⟨h1, h2⟩ := h w (by simp)
    obtain ⟨e, hne⟩ := KO_word u s w (32 :: joinSp (v :: q)) h1 g o h2
    show KO u s g o (w ++ 32 :: joinSp (v :: q)) = _
    rw [e, KO, if_pos rfl, KO_text u s q v (7 * s) _ (fun x hx => h x (by simp [List.mem_cons.1 hx])), if_neg hne]
    by_cases c : o = []
    · rw [if_pos c, if_pos c]; simp [elT, tailT]
    · rw [if_neg c, if_neg c]; simp [elT, tailT]
theorem code_bytes : ∀ b : UInt8, ∀ c ∈ codeL b, c = 45 ∨ c = 46 := all_bytes (by decide +kernel)
theorem keyEl (u s : Int) (S : ByteArray) (i : Nat) (c : List UInt8) (hcl : c.length ≤ 6) (hc : ∀ x ∈ c, x = 45 ∨ x = 46) (hu : 0 ≤ u ∧ u ≤ 2000) (hs : 0 ≤ s ∧ s ≤ 2000) (hi : i ≤ 1000) (F : List Int) (hF : F.length ≤ 1000000) (v : List Int)
    (hv : Ev (fun k => pileref1_KeyedOf.l0 k S u s (3 * s) ((i + 1 : Nat) : Int) F) v) (d : Nat) :
    ∀ (j : Nat) (g : Int) (o : List Int), j + d = c.length → (1 ≤ j → o ≠ [] ∧ g = u) → (if j = 0 then (if c = [] then o else if o = [] then elE u c else o ++ g :: elE u c) else o ++ tailE u (c.drop j)) = F → Ev (fun k => pileref1_KeyedOf.l1 k S u s (i : Int) g o (mk c) j) v := by
  have hsz := mk_size c
  induction d with
  | zero =>
    intro j g o hj h1 h2
    refine Ev.succ ?_
    simp only [pileref1_KeyedOf.l1, hsz, wrap_id (e := 3 * s) (by omega) (by omega), wrap_succ (show i ≤ 1000000000000000 by omega)]
    have : o = F := by
      by_cases c0 : j = 0
      · rw [if_pos c0, if_pos (List.eq_nil_of_length_eq_zero (by omega))] at h2; exact h2
      · rw [if_neg c0, List.drop_eq_nil_of_le (by omega)] at h2; simpa [tailE] using h2
    rw [this]
    exact Ev.neg (by omega) hv
  | succ d ih =>
    intro j g o hj h1 h2
    have hjl : j < c.length := by omega
    have hcj := hc _ (List.getElem_mem hjl)
    have ha : c[j].toNat < 128 := by
      rcases hcj with h | h
      · rw [h]; decide
      · rw [h]; decide
    have hdec := dec_at c j hjl ha
    have hdrop : c.drop j = c[j] :: c.drop (j + 1) := List.drop_eq_getElem_cons hjl
    have hcne : c ≠ [] := fun h => by rw [h] at hjl; cases hjl
    have j13 : ∀ o2, o2 ++ mrk u c[j] :: tailE u (c.drop (j + 1)) = F → Ev (fun k => pileref1_KeyedOf.j13 k S u s (i : Int) (mk c) j o2) v := by
      intro o2 h3
      have hl : o2.length + 1 ≤ 1000000 := by rw [← h3] at hF; simp at hF; omega
      have := ih (j + 1) u (o2 ++ [mrk u c[j]]) (by omega) (fun _ => ⟨by simp, rfl⟩) (by rw [if_neg (by omega)]; simpa using h3)
      have j16 : Ev (fun k => pileref1_KeyedOf.j16 k S u s (i : Int) (mk c) j (o2 ++ [mrk u c[j]])) v := Ev.step (fun k => by simp only [pileref1_KeyedOf.j16, hdec]) this
      refine Ev.succ ?_
      simp only [pileref1_KeyedOf.j13, hdec, wrap_id (e := 3 * u) (by omega) (by omega)]
      by_cases c46 : ((c[j].toNat : Nat) : Int) = 46
      · have hm : mrk u c[j] = u := by
          rw [mrk, if_neg]
          intro h
          rw [h] at c46
          exact absurd c46 (by decide)
        rw [hm] at j16
        exact Ev.pos c46 (Ev.pos (by omega) j16)
      · have hm : mrk u c[j] = 3 * u := by
          rw [mrk, if_pos]
          rcases hcj with h | h
          · exact h
          · rw [h] at c46; exact absurd rfl c46
        rw [hm] at j16
        exact Ev.neg c46 (Ev.pos (by omega) j16)
    refine Ev.succ ?_
    simp only [pileref1_KeyedOf.l1, hsz]
    refine Ev.pos hjl ?_
    by_cases c0 : j = 0
    · subst c0
      rw [if_pos rfl, if_neg hcne] at h2
      have hel : elE u c = mrk u c[0] :: tailE u (c.drop 1) := by
        cases c with
        | nil => exact absurd rfl hcne
        | cons a r => rfl
      rw [hel] at h2
      by_cases co : o = []
      · rw [if_pos co] at h2
        subst co
        exact Ev.neg (by simp) (j13 [] (by simpa using h2))
      · rw [if_neg co] at h2
        have hl : o.length + 1 ≤ 1000000 := by rw [← h2] at hF; simp at hF; omega
        have hpos : 0 < o.length := List.length_pos_iff.2 co
        exact Ev.pos (by omega) (Ev.pos (by omega) (j13 (o ++ [g]) (by simpa using h2)))
    · obtain ⟨ho, rfl⟩ := h1 (by omega)
      have ht : tailE g (c[j] :: c.drop (j + 1)) = g :: mrk g c[j] :: tailE g (c.drop (j + 1)) := rfl
      rw [if_neg c0, hdrop, ht] at h2
      have hl : o.length + 1 ≤ 1000000 := by rw [← h2] at hF; simp at hF; omega
      have hpos : 0 < o.length := List.length_pos_iff.2 ho
      exact Ev.pos (by omega) (Ev.pos (by omega) (j13 (o ++ [g]) (by rw [List.append_assoc]; exact h2)))
theorem keyOf_run (u s : Int) (p : List UInt8) (hp : p.length ≤ 500) (hall : ∀ b ∈ p, isSign b = true ∨ b = 32) (hu : 0 ≤ u ∧ u ≤ 2000) (hs : 0 ≤ s ∧ s ≤ 2000) (d : Nat) :
    ∀ (j : Nat) (g : Int) (o : List Int), j + d = p.length → o.length ≤ 13 * j → Ev (fun k => pileref1_KeyedOf.l0 k (mk p) u s g (j : Int) o) (KO u s g o (p.drop j)) := by
  have hsz := mk_size p
  induction d with
  | zero =>
    intro j g o hj _
    rw [List.drop_eq_nil_of_le (by omega)]
    refine Ev.step (f := fun _ => some _) (fun k => ?_) (Ev.now _)
    simp only [pileref1_KeyedOf.l0, hsz]
    rw [if_neg (by omega)]
    rfl
  | succ d ih =>
    intro j g o hj ho
    have hjl : j < p.length := by omega
    have hb := mk_bt p j hjl
    rw [List.drop_eq_getElem_cons hjl, KO]
    refine Ev.succ ?_
    simp only [pileref1_KeyedOf.l0, hsz, hb, wrap_id (e := 7 * s) (by omega) (by omega), wrap_succ (show j ≤ 1000000000000000 by omega)]
    refine Ev.pos (by omega) (Ev.pos (by omega) (Ev.pos (by omega) ?_))
    by_cases c : p[j] = 32
    · rw [if_pos c]
      exact Ev.pos (by rw [c]; rfl) (ih (j + 1) _ o (by omega) (by omega))
    · rw [if_neg c]
      have hsg : isSign p[j] = true := (hall _ (List.getElem_mem hjl)).resolve_right c
      have hel := elC_len u p[j]
      refine Ev.neg (fun h => c ?_) (Ev.pos (by omega) (Ev.pos (by omega) (Ev.bind (codeOf_ev p[j] hsg) ?_)))
      · apply UInt8.toNat_inj.1
        have : (32 : UInt8).toNat = 32 := rfl
        omega
      · have hlen : (if o = [] then elE u (codeL p[j]) else o ++ g :: elE u (codeL p[j])).length ≤ 13 * (j + 1) := by
          split
          · omega
          · simp only [List.length_append, List.length_cons]; omega
        have hcn := (code_facts p[j]).1 hsg
        refine keyEl u s (mk p) j (codeL p[j]) (code_facts p[j]).2.2.1 (code_bytes p[j]) hu hs (by omega) _ (by omega) _ (ih (j + 1) (3 * s) _ (by omega) hlen) (codeL p[j]).length 0 g o (by omega) (fun h => absurd h (by omega)) ?_
        rw [if_pos rfl, if_neg hcn]
theorem said_all {p : List UInt8} (h : saidF p = 0) : p.length ≤ 500 ∧ (∀ b ∈ p, isSign b = true ∨ b = 32) ∧ ∀ x ∈ wordsOf p, x ≠ [] ∧ ∀ b ∈ x, isSign b = true := by
  unfold saidF at h
  split at h
  · cases h
  · rename_i c0
    split at h
    · cases h
    · rename_i c1
      split at h
      · rename_i c2
        have hal := c2
        rw [all_signs, List.all_eq_true] at c2
        refine ⟨by omega, fun b hb => by simpa using c2 b hb, fun x hx => ⟨fun e => c1 ?_, ?_⟩⟩
        · unfold badW
          rw [List.any_eq_true]
          exact ⟨x, hx, by rw [e]; rfl⟩
        · unfold allS at hal
          rw [List.all_eq_true] at hal
          have := hal x hx
          rw [List.all_eq_true] at this
          exact this
      · cases h
theorem KeyedOf_full (p : List UInt8) (h : saidF p = 0) (u s : Int) (hu : 0 ≤ u ∧ u ≤ 2000) (hs : 0 ≤ s ∧ s ≤ 2000) : Ev (fun k => pileref1_KeyedOf.f k (mk p) u s) (elT u s (wordsOf p)) := by
  obtain ⟨h1, h2, h3⟩ := said_all h
  have e := keyOf_run u s p h1 h2 hu hs p.length 0 0 [] (by omega) (by simp)
  rw [List.drop_zero] at e
  obtain ⟨w, q, hw⟩ := wordsOf_ne p
  rw [hw] at h3
  have hk := KO_text u s q w 0 [] h3
  rw [if_pos rfl, ← hw, joinSp_words] at hk
  rw [hk] at e
  exact e
end Go.EV.Pure
namespace Go.EV.Pure
open Go Go.EV Go.RowKit
set_option linter.unusedSimpArgs false
set_option maxRecDepth 100000
end Go.EV.Pure
namespace Go.EV.Pure
open Go Go.EV Go.RowKit
set_option linter.unusedSimpArgs false
set_option maxRecDepth 100000
/-! The table of signs, codes written and read, both ways. -/
def sgL : List (ByteArray × ByteArray) := (signsL.zip codesL).map fun x => (mk [x.1], mk x.2)
theorem sgL_at (j : Nat) (h : j < 40) : sgL[j]'(by rw [show sgL.length = 40 from rfl]; exact h) = (mk [signsL.getD j 0], mk (codesL.getD j [])) := by
  have h1 : j < signsL.length := h
  have h2 : j < codesL.length := h
  simp [sgL, List.getD, List.getElem?_eq_getElem h1, List.getElem?_eq_getElem h2]
theorem CodesOf_sg : Ev (fun k => pileref1_CodesOf.f k) sgL := by
  obtain ⟨R, hR, hl, hp⟩ := CodesOf_ev
  have : R = sgL := by
    apply List.ext_getElem
    · rw [hl]; rfl
    · intro j h1 h2
      rw [hp j h1, sgL_at j (by omega)]
  rw [← this]
  exact hR
theorem Codes_sg : Ev (fun k => key_Codes.f k) sgL := Ev.from 100 fun k => (by kernel_rfl : key_Codes.f (k + 100) = some sgL)
theorem EqualSg (D : List (ByteArray × ByteArray)) (hl : D.length ≤ 20000) : Ev (fun k => slices_Equal_api_Signed_api_Signed.f k D D) true := by
  obtain ⟨v, rfl, hv⟩ := loop D (fun k i (_ : Unit) => slices_Equal_api_Signed_api_Signed.l0 k D D i) (fun _ _ => True) (fun v => v = true)
    (fun i _ hi _ => .inl ⟨(), trivial, fun v hv => Ev.step (fun k => by
      simp only [slices_Equal_api_Signed_api_Signed.l0]
      rw [if_pos (by omega), if_pos (by omega), if_pos (by omega), if_pos (by omega), if_pos (by omega), if_pos (by simp), wrap_succ (by omega)]) hv⟩)
    (fun _ _ => ⟨true, rfl, Ev.step (f := fun _ => some _) (fun k => by simp only [slices_Equal_api_Signed_api_Signed.l0]; rw [if_neg (by omega)]) (Ev.now _)⟩) 0 () (by omega) trivial
  unfold slices_Equal_api_Signed_api_Signed.f
  exact Ev.pos rfl hv
/-! codes written -/
end Go.EV.Pure
namespace Go.EV.Pure
open Go Go.EV Go.RowKit
set_option linter.unusedSimpArgs false
set_option maxRecDepth 100000
/-! Codes read. -/
def signF (a : ByteArray) : ByteArray := match sgL.find? (fun x => decide (x.2 = a)) with
  | some x => x.1
  | none => mk [42]
theorem signF_size (a : ByteArray) : (signF a).size = 1 := by
  unfold signF
  split
  · rename_i x hx
    have hm := List.mem_of_find?_eq_some hx
    have : ∀ x ∈ sgL, x.1.size = 1 := by decide +kernel
    exact this x hm
  · rfl
def signL (c : List UInt8) : List UInt8 := (signF (mk c)).data.toList
theorem signL_mk (c : List UInt8) : signF (mk c) = mk (signL c) := mk_of _
theorem signL_len (c : List UInt8) : (signL c).length = 1 := by
  have := signF_size (mk c)
  unfold signL
  rw [Array.length_toList]
  exact this
def byC : List (ByteArray × ByteArray) := sgL.map fun x => (x.2, x.1)
theorem byCodes_ev : Ev (fun k => key_byCodes.f k) byC := Ev.from 100 fun k => (by kernel_rfl : key_byCodes.f (k + 100) = some byC)
theorem mget_find (a d : ByteArray) : ∀ L : List (ByteArray × ByteArray), (a ∈ (L.map fun x => (x.2, x.1)).map Prod.fst ↔ (L.find? (fun x => decide (x.2 = a))).isSome = true) ∧
    ∀ x, L.find? (fun x => decide (x.2 = a)) = some x → mget d (L.map fun x => (x.2, x.1)) a = x.1
  | [] => by simp
  | y :: r => by
    obtain ⟨i1, i2⟩ := mget_find a d r
    by_cases c : y.2 = a
    · have hf : (y :: r).find? (fun x => decide (x.2 = a)) = some y := by rw [List.find?_cons, decide_eq_true c]
      rw [hf]
      refine ⟨by simp [c], fun x hx => ?_⟩
      cases hx
      simp [mget, c]
    · have hf : (y :: r).find? (fun x => decide (x.2 = a)) = r.find? (fun x => decide (x.2 = a)) := by rw [List.find?_cons, decide_eq_false c]
      rw [hf, ← i1]
      refine ⟨?_, fun x hx => ?_⟩
      · simp only [List.map_cons, List.mem_cons]
        constructor
        · rintro (h | h)
          · exact absurd h.symm c
          · exact h
        · exact fun h => .inr h
      · rw [← i2 x hx]
        unfold mget
        have hb : (y.2 == a) = false := by simpa using c
        simp only [List.map_cons, List.idxOf_cons, hb, cond_false, List.getD_cons_succ]
theorem keySign (a : ByteArray) : key_signOf.f byC a = some (signF a) := by
  obtain ⟨h1, h2⟩ := mget_find a ByteArray.empty sgL
  unfold key_signOf.f signF
  by_cases c : a ∈ List.map Prod.fst byC
  · rw [if_pos c]
    have hs := h1.1 c
    cases hf : sgL.find? (fun x => decide (x.2 = a)) with
    | none => rw [hf] at hs; cases hs
    | some x => show some _ = some x.1; rw [← h2 x hf]; rfl
  · rw [if_neg c]
    cases hf : sgL.find? (fun x => decide (x.2 = a)) with
    | none => rfl
    | some x => exact absurd (h1.2 (by rw [hf]; rfl)) c
end Go.EV.Pure
namespace Go.EV.Pure
open Go Go.EV Go.RowKit
set_option linter.unusedSimpArgs false
set_option linter.unusedVariables false
set_option maxRecDepth 100000
/-! Marks and gaps: how far they are from a unit, and what they are read as. -/
def dst (a b : Int) : Int := mx (a - b) (b - a)
def nearF (a u : Int) (m : Bool) : Int × Int :=
  if m = true then (if dst a (3 * u) < dst a u then (3, dst a (3 * u)) else (1, dst a u))
  else if dst a (7 * u) < (if dst a (3 * u) < dst a u then dst a (3 * u) else dst a u) then (7, dst a (7 * u)) else (if dst a (3 * u) < dst a u then (3, dst a (3 * u)) else (1, dst a u))
theorem dst_bd {a b N : Int} (ha : 0 ≤ a ∧ a ≤ N) (hb : 0 ≤ b ∧ b ≤ N) : 0 ≤ dst a b ∧ dst a b ≤ N := by
  unfold dst
  rw [mx_eq]
  split <;> omega
theorem isMark_ev (i : Nat) : key_isMark.f (i : Int) = some (decide (i % 2 = 0)) := by
  unfold key_isMark.f
  rw [tmod_pos (by omega)]
  have e : ((i : Int) % 2 = 0) ↔ (i % 2 = 0) := by omega
  simp only [e]
theorem near_step (a u : Int) (L : List Int) (i : Nat) (n x6 x7 : Int) (ha : 0 ≤ a ∧ a ≤ 1000000) (hu : 0 ≤ u ∧ u ≤ 100000) (hi : i < L.length) (hL : L.length ≤ 100) (hn : L[i] = n) (hn0 : 1 ≤ n ∧ n ≤ 7) (v : Int × Int)
    (h1 : x7 < 0 ∨ dst a (n * u) < x7 → Ev (fun k => key_nearest.l0 k a u L n (dst a (n * u)) ((i + 1 : Nat) : Int)) v)
    (h2 : ¬ (x7 < 0 ∨ dst a (n * u) < x7) → Ev (fun k => key_nearest.l0 k a u L x6 x7 ((i + 1 : Nat) : Int)) v) : Ev (fun k => key_nearest.l0 k a u L x6 x7 (i : Int)) v := by
  have hr := rd_get L i hi
  have hnu : 0 ≤ n * u ∧ n * u ≤ 700000 := by
    obtain ⟨q0, q1⟩ := hn0
    have : n = 1 ∨ n = 2 ∨ n = 3 ∨ n = 4 ∨ n = 5 ∨ n = 6 ∨ n = 7 := by omega
    rcases this with rfl | rfl | rfl | rfl | rfl | rfl | rfl <;> omega
  have hd : mx (wrap64 (a - wrap64 (n * u))) (wrap64 (wrap64 (n * u) - a)) = dst a (n * u) := by
    rw [wrap_id (e := n * u) (by omega) (by omega), wrap_id (e := a - n * u) (by omega) (by omega), wrap_id (e := n * u - a) (by omega) (by omega)]
    rfl
  have hj : ∀ y z : Int, Ev (fun k => key_nearest.l0 k a u L y z ((i + 1 : Nat) : Int)) v → Ev (fun k => key_nearest.j11 k a u L (i : Int) y z) v := fun y z h => Ev.step (fun k => by simp only [key_nearest.j11, wrap_succ (show i ≤ 1000000000000000 by omega)]) h
  refine Ev.succ ?_
  simp only [key_nearest.l0, hr, hn, hd]
  refine Ev.pos (by omega) (Ev.pos (by omega) (Ev.pos (by omega) ?_))
  by_cases c : x7 < 0
  · exact Ev.pos c (hj _ _ (h1 (.inl c)))
  · refine Ev.neg c ?_
    by_cases c2 : dst a (n * u) < x7
    · exact Ev.pos c2 (hj _ _ (h1 (.inr c2)))
    · exact Ev.neg c2 (hj _ _ (h2 (by omega)))
theorem near_end (a u : Int) (L : List Int) (x6 x7 : Int) (i : Nat) (hi : i = L.length) : Ev (fun k => key_nearest.l0 k a u L x6 x7 (i : Int)) (x6, x7) := by
  refine Ev.succ ?_
  simp only [key_nearest.l0]
  exact Ev.neg (by omega) (Ev.now _)
theorem nearest_ev (a u : Int) (m : Bool) (ha : 0 ≤ a ∧ a ≤ 1000000) (hu : 0 ≤ u ∧ u ≤ 100000) : Ev (fun k => key_nearest.f k a u m) (nearF a u m) := by
  have b1 := (dst_bd (N := 1000000) ha (b := 1 * u) (by omega)).1
  have b3 := (dst_bd (N := 1000000) ha (b := 3 * u) (by omega)).1
  have e1 : (1 : Int) * u = u := by omega
  unfold key_nearest.f
  cases m with
  | true =>
    refine Ev.pos rfl (Ev.pos (by decide) (Ev.succ ?_))
    simp only [key_nearest.j4]
    have hL : ([1, 3, 7] : List Int).take 2 = [1, 3] := rfl
    rw [hL]
    refine near_step a u [1, 3] 0 1 0 (-1) ha hu (by decide) (by decide) rfl (by omega) _ (fun _ => ?_) (fun h => absurd (.inl (by omega)) h)
    refine near_step a u [1, 3] 1 3 1 (dst a (1 * u)) ha hu (by decide) (by decide) rfl (by omega) _ (fun h => ?_) (fun h => ?_)
    · have e : nearF a u true = (3, dst a (3 * u)) := by unfold nearF; rw [e1] at h; rw [if_pos rfl, if_pos (by rw [e1] at b1; omega)]
      rw [e]
      exact near_end a u [1, 3] _ _ 2 rfl
    · have e : nearF a u true = (1, dst a (1 * u)) := by unfold nearF; rw [e1] at h ⊢; rw [if_pos rfl, if_neg (by omega)]
      rw [e]
      exact near_end a u [1, 3] _ _ 2 rfl
  | false =>
    refine Ev.neg Bool.false_ne_true (Ev.succ ?_)
    simp only [key_nearest.j4]
    refine near_step a u [1, 3, 7] 0 1 0 (-1) ha hu (by decide) (by decide) rfl (by omega) _ (fun _ => ?_) (fun h => absurd (.inl (by omega)) h)
    refine near_step a u [1, 3, 7] 1 3 1 (dst a (1 * u)) ha hu (by decide) (by decide) rfl (by omega) _ (fun h => ?_) (fun h => ?_)
    · rw [e1] at h b1
      have h' : dst a (3 * u) < dst a u := by omega
      refine near_step a u [1, 3, 7] 2 7 3 (dst a (3 * u)) ha hu (by decide) (by decide) rfl (by omega) _ (fun h2 => ?_) (fun h2 => ?_)
      · have e : nearF a u false = (7, dst a (7 * u)) := by unfold nearF; rw [if_neg Bool.false_ne_true, if_pos h', if_pos (by omega)]
        rw [e]
        exact near_end a u [1, 3, 7] _ _ 3 rfl
      · have e : nearF a u false = (3, dst a (3 * u)) := by unfold nearF; rw [if_neg Bool.false_ne_true, if_pos h', if_neg (by omega), if_pos h']
        rw [e]
        exact near_end a u [1, 3, 7] _ _ 3 rfl
    · rw [e1] at h b1 ⊢
      have h' : ¬ dst a (3 * u) < dst a u := by omega
      refine near_step a u [1, 3, 7] 2 7 1 (dst a u) ha hu (by decide) (by decide) rfl (by omega) _ (fun h2 => ?_) (fun h2 => ?_)
      · have e : nearF a u false = (7, dst a (7 * u)) := by unfold nearF; rw [if_neg Bool.false_ne_true, if_neg h', if_pos (by omega)]
        rw [e]
        exact near_end a u [1, 3, 7] _ _ 3 rfl
      · have e : nearF a u false = (1, dst a u) := by unfold nearF; rw [if_neg Bool.false_ne_true, if_neg h', if_neg (by omega), if_neg h']
        rw [e]
        exact near_end a u [1, 3, 7] _ _ 3 rfl
def MK (N : Int) (l : List Int) : Prop := l.length ≤ 20000 ∧ ∀ x ∈ l, 1 ≤ x ∧ x ≤ N
def offA (a u : Int) (m : Bool) : Int := (nearF a u m).2
theorem offA_mark (a u : Int) : offA a u true = mn (dst a u) (dst a (3 * u)) := by
  unfold offA nearF
  rw [if_pos rfl, mn_eq]
  split <;> rfl
theorem offA_gap (a u : Int) : offA a u false = mn (mn (dst a u) (dst a (3 * u))) (dst a (7 * u)) := by
  unfold offA nearF
  rw [if_neg Bool.false_ne_true, mn_eq, mn_eq]
  split <;> split <;> rfl
theorem offA_bd {a u : Int} {m : Bool} (ha : 0 ≤ a ∧ a ≤ 100000) (hu : 0 ≤ u ∧ u ≤ 10000) : 0 ≤ offA a u m ∧ offA a u m ≤ 100000 := by
  have b1 := dst_bd ha (b := u) (by omega)
  have b3 := dst_bd ha (b := 3 * u) (by omega)
  have b7 := dst_bd ha (b := 7 * u) (by omega)
  cases m with
  | true => rw [offA_mark, mn_eq]; split <;> omega
  | false => rw [offA_gap, mn_eq, mn_eq]; split <;> (try split) <;> omega
def offL (u : Int) : Nat → List Int → Int
  | _, [] => 0
  | i, a :: r => offA a u (decide (i % 2 = 0)) + offL u (i + 1) r
theorem off_run (l : List Int) (u : Int) (hl : MK 100000 l) (hu : 1 ≤ u ∧ u ≤ 2000) (d : Nat) : ∀ (i : Nat) (s : Int), i + d = l.length → 0 ≤ s ∧ s ≤ 100000 * (i : Int) → Ev (fun k => key_offOf.l0 k l u s (i : Int)) (s + offL u i (l.drop i)) := by
  have hll := hl.1
  induction d with
  | zero =>
    intro i s hi hs
    rw [List.drop_eq_nil_of_le (by omega)]
    refine Ev.succ ?_
    simp only [key_offOf.l0, offL, Int.add_zero]
    exact Ev.neg (by omega) (Ev.now _)
  | succ d ih =>
    intro i s hi hs
    have hil : i < l.length := by omega
    have ha := hl.2 _ (List.getElem_mem hil)
    have hr := rd_get l i hil
    rw [List.drop_eq_getElem_cons hil]
    generalize l[i] = a at ha hr
    have b := offA_bd (a := a) (u := u) (m := decide (i % 2 = 0)) (by omega) (by omega)
    have w3 : wrap64 (3 * u) = 3 * u := wrap_id (by omega) (by omega)
    have w7 : wrap64 (7 * u) = 7 * u := wrap_id (by omega) (by omega)
    have d1 : mx (wrap64 (a - u)) (wrap64 (u - a)) = dst a u := by rw [wrap_id (e := a - u) (by omega) (by omega), wrap_id (e := u - a) (by omega) (by omega)]; rfl
    have d3 : mx (wrap64 (a - 3 * u)) (wrap64 (3 * u - a)) = dst a (3 * u) := by rw [wrap_id (e := a - 3 * u) (by omega) (by omega), wrap_id (e := 3 * u - a) (by omega) (by omega)]; rfl
    have d7 : mx (wrap64 (a - 7 * u)) (wrap64 (7 * u - a)) = dst a (7 * u) := by rw [wrap_id (e := a - 7 * u) (by omega) (by omega), wrap_id (e := 7 * u - a) (by omega) (by omega)]; rfl
    have ih2 := ih (i + 1) (s + offA a u (decide (i % 2 = 0))) (by omega) (by omega)
    have hj : Ev (fun k => key_offOf.j9 k l u s (i : Int) (offA a u (decide (i % 2 = 0)))) (s + (offA a u (decide (i % 2 = 0)) + offL u (i + 1) (l.drop (i + 1)))) := by
      refine Ev.step (fun k => ?_) (by rw [Int.add_assoc] at ih2; exact ih2)
      simp only [key_offOf.j9, wrap_succ (show i ≤ 1000000000000000 by omega)]
      rw [wrap_id (e := s + offA a u (decide (i % 2 = 0))) (by omega) (by omega)]
    refine Ev.succ ?_
    simp only [key_offOf.l0, hr, w3, w7, d1, d3, d7, isMark_ev, Option.bind_some, offL]
    refine Ev.pos (by omega) (Ev.pos (by omega) (Ev.pos (by omega) ?_))
    by_cases c : i % 2 = 0
    · have c2 : decide (i % 2 = 0) = true := decide_eq_true c
      rw [c2] at hj ⊢
      rw [offA_mark] at hj ⊢
      exact Ev.pos rfl hj
    · have c2 : decide (i % 2 = 0) = false := decide_eq_false c
      rw [c2] at hj ⊢
      rw [offA_gap] at hj ⊢
      exact Ev.neg Bool.false_ne_true hj
theorem offOf_ev (l : List Int) (u : Int) (hl : MK 100000 l) (hu : 1 ≤ u ∧ u ≤ 2000) : Ev (fun k => key_offOf.f k l u) (offL u 0 l) := by
  have := off_run l u hl hu l.length 0 0 (by omega) (by omega)
  unfold key_offOf.f
  simpa using this
/-! ### reading -/
def rdS (u : Int) : Nat → List UInt8 → List UInt8 → List Int → List UInt8
  | _, o, c, [] => o ++ signL c
  | i, o, c, a :: r =>
    if decide (i % 2 = 0) = true then rdS u (i + 1) o (c ++ [if (nearF a u true).1 = 1 then 46 else 45]) r
    else if (nearF a u false).1 = 3 then rdS u (i + 1) (o ++ signL c) [] r
    else if (nearF a u false).1 = 7 then rdS u (i + 1) (o ++ signL c ++ [32]) [] r
    else rdS u (i + 1) o c r
theorem mk_push (p : List UInt8) (b : UInt8) : (mk p).push b = mk (p ++ [b]) := by
  apply ByteArray.ext
  show p.toArray.push b = _
  simp [mk]
theorem wByte (v : Nat) (p : List UInt8) (b : UInt8) (hp : p.length ≤ 1000000) : strings_Builder_WriteByte.f v (mk p) (b.toNat : Int) = some (v + 1, mk (p ++ [b])) := by
  unfold strings_Builder_WriteByte.f
  have hb : b.toNat < 256 := UInt8.toNat_lt b
  rw [if_pos ⟨by rw [mk_size]; omega, by omega, by omega⟩]
  have : UInt8.ofNat ((b.toNat : Int)).toNat = b := by simp
  rw [this, mk_push]
theorem read1_ev (v0 v2 : Nat) (o c : List UInt8) (ho : o.length ≤ 1000000) : ∃ w0 w2, key_read_1.f v0 (mk o) byC v2 (mk c) = some (w0, mk (o ++ signL c), w2, mk []) := by
  refine ⟨v0 + 1, v2 + 1, ?_⟩
  unfold key_read_1.f strings_Builder_String.f strings_Builder_Reset.f strings_Builder_WriteString.f
  simp only [Option.bind_some, keySign, signL_mk]
  rw [if_pos (by rw [mk_size, mk_size, signL_len]; omega), mk_append]
  rfl
theorem read_run (l : List Int) (u : Int) (hl : MK 100000 l) (hu : 1 ≤ u ∧ u ≤ 2000) (d : Nat) : ∀ (i : Nat) (v0 v2 : Nat) (o c : List UInt8), i + d = l.length → o.length ≤ 2 * i → c.length ≤ i → Ev (fun k => key_read.l0 k l u (i : Int) byC v0 (mk o) v2 (mk c)) (mk (rdS u i o c (l.drop i))) := by
  have hll := hl.1
  induction d with
  | zero =>
    intro i v0 v2 o c hi ho hc
    rw [List.drop_eq_nil_of_le (by omega)]
    obtain ⟨w0, w2, e⟩ := read1_ev v0 v2 o c (by omega)
    refine Ev.succ ?_
    simp only [key_read.l0, rdS, e, Option.bind_some, strings_Builder_String.f]
    exact Ev.neg (by omega) (Ev.now _)
  | succ d ih =>
    intro i v0 v2 o c hi ho hc
    have hil : i < l.length := by omega
    have ha := hl.2 _ (List.getElem_mem hil)
    have hr := rd_get l i hil
    rw [List.drop_eq_getElem_cons hil]
    generalize l[i] = a at ha hr
    have hj : ∀ w0 w2 o' c', o'.length ≤ 2 * (i + 1) → c'.length ≤ i + 1 → Ev (fun k => key_read.j17 k l u (i : Int) byC w0 (mk o') w2 (mk c')) (mk (rdS u (i + 1) o' c' (l.drop (i + 1)))) := fun w0 w2 o' c' h1 h2 =>
      Ev.step (fun k => by simp only [key_read.j17, wrap_succ (show i ≤ 1000000000000000 by omega)]) (ih (i + 1) w0 w2 o' c' (by omega) h1 h2)
    have hn := fun m => nearest_ev a u m (by omega) (by omega)
    obtain ⟨w0, w2, e⟩ := read1_ev v0 v2 o c (by omega)
    have lo : (o ++ signL c).length ≤ 2 * (i + 1) := by rw [List.length_append, signL_len]; omega
    refine Ev.succ ?_
    simp only [key_read.l0, hr, isMark_ev, Option.bind_some, rdS]
    refine Ev.pos (by omega) (Ev.pos (by omega) (Ev.pos (by omega) ?_))
    by_cases c0 : i % 2 = 0
    · have c2 : decide (i % 2 = 0) = true := decide_eq_true c0
      simp only [c2, if_pos]
      refine Ev.bind (hn true) ?_
      by_cases c1 : (nearF a u true).1 = 1
      · have := wByte v2 c 46 (by omega)
        simp only [UInt8.reduceToNat] at this
        simp only [if_pos c1]
        rw [show (46 : Int) = ((46 : UInt8).toNat : Int) from rfl, wByte v2 c 46 (by omega)]
        exact hj _ _ _ _ (by omega) (by simp; omega)
      · simp only [if_neg c1]
        rw [show (45 : Int) = ((45 : UInt8).toNat : Int) from rfl, wByte v2 c 45 (by omega)]
        exact hj _ _ _ _ (by omega) (by simp; omega)
    · have c2 : decide (i % 2 = 0) = false := decide_eq_false c0
      simp only [c2, if_neg Bool.false_ne_true]
      refine Ev.bind (hn false) ?_
      by_cases c3 : (nearF a u false).1 = 3
      · simp only [if_pos c3, e, Option.bind_some]
        exact hj _ _ _ _ lo (by simp)
      · simp only [if_neg c3]
        by_cases c7 : (nearF a u false).1 = 7
        · simp only [if_pos c7, e, Option.bind_some]
          rw [show (32 : Int) = ((32 : UInt8).toNat : Int) from rfl, wByte w0 (o ++ signL c) 32 (by omega)]
          exact hj _ _ _ _ (by rw [List.length_append, List.length_append, signL_len]; simp; omega) (by simp)
        · simp only [if_neg c7]
          exact hj _ _ _ _ (by omega) (by omega)
def readL (u : Int) (l : List Int) : List UInt8 := rdS u 0 [] [] l
theorem read_ev (l : List Int) (u : Int) (hl : MK 100000 l) (hu : 1 ≤ u ∧ u ≤ 2000) : Ev (fun k => key_read.f k l u) (mk (readL u l)) := by
  unfold key_read.f
  have := read_run l u hl hu l.length 0 0 0 [] [] (by omega) (by simp) (by simp)
  rw [List.drop_zero] at this
  exact Ev.bind byCodes_ev this
theorem CheckOK (l : List Int) (hl : MK 100000 l) (ho : l.length % 2 = 1) : Ev (fun k => key_CheckMarks.f k l) 0 := by
  have hll := hl.1
  obtain ⟨v, rfl, hv⟩ := loop l (fun k i (_ : Unit) => slices_IndexFunc_int_int_of_key_CheckMarks_1.l0 k l i) (fun _ _ => True) (fun v => v = -1)
    (fun i _ hi _ => .inl ⟨(), trivial, fun v hv => Ev.step (fun k => by
      have hx := hl.2 _ (List.getElem_mem hi)
      simp only [slices_IndexFunc_int_int_of_key_CheckMarks_1.l0, key_CheckMarks_1.f, kit_Outside.f]
      rw [if_pos (by omega), if_pos (by omega), if_pos (by omega), rd_get l i hi, if_neg (by omega)]
      simp only [Option.bind_some]
      rw [if_neg (by simp; omega), wrap_succ (by omega)]) hv⟩)
    (fun _ _ => ⟨-1, rfl, Ev.step (f := fun _ => some _) (fun k => by simp only [slices_IndexFunc_int_int_of_key_CheckMarks_1.l0]; rw [if_neg (by omega)]) (Ev.now _)⟩) 0 () (by omega) trivial
  have hc : Ev (fun k => slices_ContainsFunc_int_int_of_key_CheckMarks_1.f k l) false := Ev.bind (f := fun k => slices_IndexFunc_int_int_of_key_CheckMarks_1.l0 k l 0) hv (Ev.now _)
  unfold key_CheckMarks.f
  refine Ev.neg (by omega) (Ev.neg (by omega) (Ev.neg ?_ (Ev.bind hc (Ev.neg Bool.false_ne_true (Ev.now _)))))
  rw [tmod_pos (by omega)]
  omega
theorem unitOK (l : List Int) (u : Int) (hl : MK 100000 l) (ho : l.length % 2 = 1) (hu : 1 ≤ u ∧ u ≤ 2000) : Ev (fun k => key_unitFault.f k l u) 0 := by
  have hO : kit_Outside.f u 1 2000 = some false := by unfold kit_Outside.f; rw [if_neg (by omega)]; simp; omega
  unfold key_unitFault.f
  simp only [hO, Option.bind_some]
  exact Ev.bind (CheckOK l hl ho) (Ev.pos rfl (Ev.neg Bool.false_ne_true (Ev.now _)))
/-- The unit that fits best, of those up to n: the greatest one. -/
def Best (l : List Int) (n b : Int) : Prop := 1 ≤ b ∧ b ≤ n ∧ ∀ u, 1 ≤ u → u ≤ n → offL b 0 l ≤ offL u 0 l ∧ (offL b 0 l = offL u 0 l → u ≤ b)
def hearR (l : List Int) (b : Int) : ByteArray × Int × Int × Bool × Int := if ((mk (readL b l)).size : Int) > 500 then (eB, 0, 0, false, 0) else (mk (readL b l), b, offL b 0 l, true, 0)
theorem hear_run (l : List Int) (hl : MK 100000 l) (d : Nat) : ∀ (u : Nat) (b : Int), u + d = 2000 → 1 ≤ u → Best l (u : Int) b → ∃ c, Best l 2000 c ∧ Ev (fun k => key_Hear.l0 k l b (offL b 0 l) ((u + 1 : Nat) : Int)) (hearR l c) := by
  induction d with
  | zero =>
    intro u b hd h1 hb
    obtain rfl : u = 2000 := by omega
    refine ⟨b, hb, Ev.succ ?_⟩
    simp only [key_Hear.l0]
    refine Ev.neg (by omega) (Ev.bind (read_ev l b hl ⟨hb.1, by have := hb.2.1; omega⟩) ?_)
    unfold hearR
    exact Ev.ite (fun c => by rw [if_pos c]; exact Ev.now _) (fun c => by rw [if_neg c]; exact Ev.now _)
  | succ d ih =>
    intro u b hd h1 hb
    have hw : wrap64 (((u + 1 : Nat) : Int) + 1) = ((u + 1 + 1 : Nat) : Int) := wrap_succ (by omega)
    have hj : ∀ c : Int, Best l ((u + 1 : Nat) : Int) c → ∃ c', Best l 2000 c' ∧ Ev (fun k => key_Hear.j7 k l ((u + 1 : Nat) : Int) c (offL c 0 l)) (hearR l c') := fun c hc => by
      obtain ⟨c', h3, h4⟩ := ih (u + 1) c (by omega) (by omega) hc
      exact ⟨c', h3, Ev.step (fun k => by simp only [key_Hear.j7, hw]) h4⟩
    have ho := offOf_ev l ((u + 1 : Nat) : Int) hl (by omega)
    have hb0 := hb.1
    have hbn := hb.2.1
    by_cases c : offL ((u + 1 : Nat) : Int) 0 l ≤ offL b 0 l
    · obtain ⟨c', h3, h4⟩ := hj ((u + 1 : Nat) : Int) ⟨by omega, by omega, fun x x1 x2 => by
        by_cases e : x = ((u + 1 : Nat) : Int)
        · subst e; exact ⟨Int.le_refl _, fun _ => Int.le_refl _⟩
        · have := hb.2.2 x x1 (by omega)
          exact ⟨by omega, fun _ => by omega⟩⟩
      refine ⟨c', h3, Ev.succ ?_⟩
      simp only [key_Hear.l0]
      exact Ev.pos (by omega) (Ev.bind ho (Ev.neg (by omega) (Ev.pos c h4)))
    · obtain ⟨c', h3, h4⟩ := hj b ⟨by omega, by omega, fun x x1 x2 => by
        by_cases e : x = ((u + 1 : Nat) : Int)
        · subst e; exact ⟨by omega, fun e2 => by omega⟩
        · exact hb.2.2 x x1 (by omega)⟩
      refine ⟨c', h3, Ev.succ ?_⟩
      simp only [key_Hear.l0]
      exact Ev.pos (by omega) (Ev.bind ho (Ev.neg (by omega) (Ev.neg c h4)))
theorem Hear_ev (l : List Int) (hl : MK 100000 l) (ho : l.length % 2 = 1) : ∃ c, Best l 2000 c ∧ Ev (fun k => key_Hear.f k l) (hearR l c) := by
  obtain ⟨c, h1, h2⟩ := hear_run l hl 1999 1 1 (by omega) (by omega) ⟨by omega, by omega, fun u u1 u2 => by obtain rfl : u = 1 := (by omega); exact ⟨Int.le_refl _, fun _ => Int.le_refl _⟩⟩
  refine ⟨c, h1, ?_⟩
  unfold key_Hear.f
  refine Ev.bind (CheckOK l hl ho) (Ev.pos rfl (Ev.succ ?_))
  simp only [key_Hear.l0]
  refine Ev.pos (by omega) (Ev.bind (offOf_ev l 1 hl (by omega)) (Ev.pos (by first | trivial | rfl) (Ev.succ ?_)))
  simp only [key_Hear.j7]
  rw [wrap_id (e := 1 + 1) (by omega) (by omega)]
  exact h2
end Go.EV.Pure
namespace Go.EV.Pure
open Go Go.EV Go.RowKit
set_option linter.unusedSimpArgs false
set_option maxRecDepth 100000
/-! What is drawn as marks and gaps. -/
theorem elE_all (u N : Int) (hu : 1 ≤ u ∧ 3 * u ≤ N) (c : List UInt8) : ∀ x ∈ elE u c, 1 ≤ x ∧ x ≤ N := by
  have hm : ∀ b, 1 ≤ mrk u b ∧ mrk u b ≤ N := fun b => by unfold mrk; split <;> omega
  cases c with
  | nil => intro x hx; cases hx
  | cons a r =>
    intro x hx
    rcases List.mem_cons.1 hx with rfl | hx
    · exact hm a
    · obtain ⟨b, _, hb⟩ := List.mem_flatMap.1 hx
      simp only [List.mem_cons, List.not_mem_nil, or_false] at hb
      rcases hb with rfl | rfl
      · omega
      · exact hm b
theorem elE_odd (u : Int) (c : List UInt8) (hc : c ≠ []) : (elE u c).length = 2 * c.length - 1 := by
  cases c with
  | nil => exact absurd rfl hc
  | cons a r =>
    have : (tailE u r).length = 2 * r.length := by
      unfold tailE
      induction r with
      | nil => rfl
      | cons b r ih => simp only [List.flatMap_cons, List.length_append, ih (by simp), List.length_cons, List.length_nil]; omega
    simp only [elE, List.length_cons, this]
    omega
theorem elW_all (u s N : Int) (hu : 1 ≤ u ∧ 3 * u ≤ N) (hs : 1 ≤ s ∧ 3 * s ≤ N) (w : List UInt8) : ∀ x ∈ elW u s w, 1 ≤ x ∧ x ≤ N := by
  cases w with
  | nil => intro x hx; cases hx
  | cons a r =>
    intro x hx
    rcases List.mem_append.1 hx with hx | hx
    · exact elE_all u N hu _ x hx
    · obtain ⟨b, _, hb⟩ := List.mem_flatMap.1 hx
      rcases List.mem_cons.1 hb with rfl | hb
      · omega
      · exact elE_all u N hu _ x hb
theorem elW_odd (u s : Int) (w : List UInt8) (hw : w ≠ []) (h : ∀ b ∈ w, isSign b = true) : (elW u s w).length % 2 = 1 := by
  have hc : ∀ b ∈ w, (elE u (codeL b)).length % 2 = 1 := fun b hb => by
    have h1 := (code_facts b).1 (h b hb)
    have := elE_odd u _ h1
    have : 1 ≤ (codeL b).length := List.length_pos_iff.2 h1
    omega
  cases w with
  | nil => exact absurd rfl hw
  | cons a r =>
    have ht : ∀ r : List UInt8, (∀ b ∈ r, (elE u (codeL b)).length % 2 = 1) → (tailW u s r).length % 2 = 0 := by
      intro r
      induction r with
      | nil => intro _; rfl
      | cons b r ih =>
        intro hh
        have h1 := hh b (by simp)
        have h2 := ih (fun x hx => hh x (by simp [hx]))
        unfold tailW at h2 ⊢
        simp only [List.flatMap_cons, List.length_append, List.length_cons]
        omega
    have h1 := hc a (by simp)
    have h2 := ht r (fun b hb => hc b (by simp [hb]))
    simp only [elW, List.length_append]
    omega
theorem elT_all (u s N : Int) (hu : 1 ≤ u ∧ 3 * u ≤ N) (hs : 1 ≤ s ∧ 7 * s ≤ N) (W : List (List UInt8)) : ∀ x ∈ elT u s W, 1 ≤ x ∧ x ≤ N := by
  cases W with
  | nil => intro x hx; cases hx
  | cons a r =>
    intro x hx
    rcases List.mem_append.1 hx with hx | hx
    · exact elW_all u s N hu (by omega) _ x hx
    · obtain ⟨b, _, hb⟩ := List.mem_flatMap.1 hx
      rcases List.mem_cons.1 hb with rfl | hb
      · omega
      · exact elW_all u s N hu (by omega) _ x hb
theorem elT_odd (u s : Int) (W : List (List UInt8)) (hW : W ≠ []) (h : ∀ w ∈ W, w ≠ [] ∧ ∀ b ∈ w, isSign b = true) : (elT u s W).length % 2 = 1 := by
  have hc : ∀ w ∈ W, (elW u s w).length % 2 = 1 := fun w hw => elW_odd u s w (h w hw).1 (h w hw).2
  cases W with
  | nil => exact absurd rfl hW
  | cons a r =>
    have ht : ∀ r : List (List UInt8), (∀ w ∈ r, (elW u s w).length % 2 = 1) → (tailT u s r).length % 2 = 0 := by
      intro r
      induction r with
      | nil => intro _; rfl
      | cons b r ih =>
        intro hh
        have h1 := hh b (by simp)
        have h2 := ih (fun x hx => hh x (by simp [hx]))
        unfold tailT at h2 ⊢
        simp only [List.flatMap_cons, List.length_append, List.length_cons]
        omega
    have h1 := hc a (by simp)
    have h2 := ht r (fun b hb => hc b (by simp [hb]))
    simp only [elT, List.length_append]
    omega
theorem changed_run (u : Int) (hu : 1 ≤ u ∧ u ≤ 100) (l : List Int) (hl : l.length ≤ 140737488351232) (n : Nat) (hn : n ≤ 1000) (d : Nat) : ∀ (i : Nat) (L : List Int) (s : Int), i + d = n → L.length = n → (∀ (j : Nat) (h : j < L.length), 1 ≤ L[j] ∧ L[j] ≤ 1500 ∧ (i ≤ j → L[j] ≤ 1400)) → 0 ≤ s → s + 2 * d ≤ 4611686018427380000 →
    ∃ L' s', Ev (fun k => pilemake_Stream_RightKeyed.l0 k u (n : Int) (i : Int) L l s) (L', l, s') ∧ L'.length = n ∧ (∀ x ∈ L', 1 ≤ x ∧ x ≤ 1500) ∧ s ≤ s' ∧ s' ≤ s + 2 * d := by
  induction d with
  | zero =>
    intro i L s hi hL hb h0 h1
    obtain rfl : i = n := by omega
    refine ⟨L, s, Ev.step (f := fun _ => some _) (fun k => ?_) (Ev.now _), hL, fun x hx => ?_, by omega, by omega⟩
    · simp only [pilemake_Stream_RightKeyed.l0]
      rw [if_neg (by omega)]
    · obtain ⟨j, hj, rfl⟩ := List.getElem_of_mem hx
      exact ⟨(hb j hj).1, (hb j hj).2.1⟩
  | succ d ih =>
    intro i L s hi hL hb h0 h1
    have hw : wrap64 ((i : Int) + 1) = ((i + 1 : Nat) : Int) := wrap_succ (by omega)
    have hj : ∀ (L2 : List Int) (s2 : Int), (∃ L' s', Ev (fun k => pilemake_Stream_RightKeyed.l0 k u (n : Int) ((i + 1 : Nat) : Int) L2 l s2) (L', l, s') ∧ L'.length = n ∧ (∀ x ∈ L', 1 ≤ x ∧ x ≤ 1500) ∧ s2 ≤ s' ∧ s' ≤ s2 + 2 * d) →
        ∃ L' s', Ev (fun k => pilemake_Stream_RightKeyed.j8 k u (n : Int) (i : Int) L2 l s2) (L', l, s') ∧ L'.length = n ∧ (∀ x ∈ L', 1 ≤ x ∧ x ≤ 1500) ∧ s2 ≤ s' ∧ s' ≤ s2 + 2 * d := fun L2 s2 ⟨L', s', e, r⟩ =>
      ⟨L', s', Ev.step (fun k => by simp only [pilemake_Stream_RightKeyed.j8, hw]) e, r⟩
    have hil : i < L.length := by omega
    obtain ⟨f, e1⟩ := Flip_spec l s 3 h0 (by omega) (by omega) hl
    cases f with
    | true =>
      obtain ⟨r, e2, m2⟩ := Pick_spec l (s + 1) [1, (-1), wrap64 (Int.tdiv u 3), wrap64 (Int.tdiv (wrap64 (0 - u)) 3), u, wrap64 (0 - u)] (by omega) (by omega) hl (by simp) (by simp)
      have hr : -100 ≤ r ∧ r ≤ 100 := by
        have t1 : Int.tdiv u 3 = u / 3 := tdiv_pos (by omega)
        have n1 : wrap64 (0 - u) = -u := by rw [wrap_id (by omega) (by omega)]; omega
        have t2 : Int.tdiv (-u) 3 = -(u / 3) := by rw [Int.neg_tdiv, t1]
        rw [n1, t1, t2, wrap_id (by omega) (by omega), wrap_id (by omega) (by omega)] at m2
        simp only [List.mem_cons, List.not_mem_nil, or_false] at m2
        omega
      have hbi := hb i hil
      have hbi2 := hbi.2.2 (Nat.le_refl _)
      have hmx : 1 ≤ mx 1 (L[i] + r) ∧ mx 1 (L[i] + r) ≤ 1500 := by rw [mx_eq]; split <;> omega
      obtain ⟨L', s', e, r1, r2, r3, r4⟩ := hj (L.set i (mx 1 (L[i] + r))) (s + 1 + 1) (ih (i + 1) _ (s + 1 + 1) (by omega) (by simpa using hL) (fun j h => by
        by_cases c : i = j
        · subst c
          rw [List.getElem_set_self]
          exact ⟨hmx.1, hmx.2, fun h' => by omega⟩
        · rw [List.getElem_set_ne c]
          have := hb j (by simpa using h)
          exact ⟨this.1, this.2.1, fun h' => this.2.2 (by omega)⟩) (by omega) (by omega))
      refine ⟨L', s', Ev.succ ?_, r1, r2, by omega, by omega⟩
      simp only [pilemake_Stream_RightKeyed.l0]
      refine Ev.pos (by omega) (Ev.bind e1 (Ev.pos rfl (Ev.pos (by omega) (Ev.pos (by omega) (Ev.bind e2 (Ev.pos (by omega) (Ev.pos (by omega) ?_)))))))
      simp only [rd_get L i hil, wrap_id (e := L[i] + r) (by omega) (by omega), Int.toNat_natCast]
      exact e
    | false =>
      obtain ⟨L', s', e, r1, r2, r3, r4⟩ := hj L (s + 1) (ih (i + 1) L (s + 1) (by omega) hL (fun j h => by
        have := hb j h
        exact ⟨this.1, this.2.1, fun h' => this.2.2 (by omega)⟩) (by omega) (by omega))
      refine ⟨L', s', Ev.succ ?_, r1, r2, by omega, by omega⟩
      simp only [pilemake_Stream_RightKeyed.l0]
      exact Ev.pos (by omega) (Ev.bind e1 (Ev.neg Bool.false_ne_true e))
def drawnW : List ByteArray := [(⟨#[101]⟩ : ByteArray), (⟨#[112, 97, 114, 105, 115]⟩ : ByteArray), (⟨#[107, 49, 97, 98, 32, 107]⟩ : ByteArray), (⟨#[116, 101, 115, 116, 32, 116]⟩ : ByteArray), (⟨#[53, 110, 110]⟩ : ByteArray), (⟨#[97, 32, 110]⟩ : ByteArray)]
theorem drawn_ok : ∀ w ∈ drawnW, ∃ p : List UInt8, w = mk p ∧ saidF p = 0 ∧ p.length ≤ 6 := by
  intro w hw
  simp only [drawnW, List.mem_cons, List.not_mem_nil, or_false] at hw
  rcases hw with rfl | rfl | rfl | rfl | rfl | rfl
  · exact ⟨[101], rfl, by decide +kernel, by decide⟩
  · exact ⟨[112, 97, 114, 105, 115], rfl, by decide +kernel, by decide⟩
  · exact ⟨[107, 49, 97, 98, 32, 107], rfl, by decide +kernel, by decide⟩
  · exact ⟨[116, 101, 115, 116, 32, 116], rfl, by decide +kernel, by decide⟩
  · exact ⟨[53, 110, 110], rfl, by decide +kernel, by decide⟩
  · exact ⟨[97, 32, 110], rfl, by decide +kernel, by decide⟩
theorem RightKeyed_sp (l : List Int) (hl : l.length ≤ 140737488351232) (s : Int) (h0 : 0 ≤ s) (h1 : s ≤ 1000000) : ∃ L s', Ev (fun k => pilemake_Stream_RightKeyed.f k l s) (L, l, s') ∧ L.length % 2 = 1 ∧ L.length ≤ 100 ∧ (∀ x ∈ L, 1 ≤ x ∧ x ≤ 1500) ∧ s ≤ s' ∧ s' ≤ s + 1000 := by
  obtain ⟨u, e1, m1⟩ := Pick_spec l s [1, 20, 60, 100] (by omega) (by omega) hl (by simp) (by simp)
  obtain ⟨w, e2, m2⟩ := Some_spec l (s + 1) drawnW (by omega) (by omega) hl (by simp [drawnW]) (by simp [drawnW])
  obtain ⟨c, e3, m3⟩ := Pick_spec l (s + 1 + 1) [1, 1, 2] (by omega) (by omega) hl (by simp) (by simp)
  have hu : 1 ≤ u ∧ u ≤ 100 := by
    simp only [List.mem_cons, List.not_mem_nil, or_false] at m1
    omega
  have hc : c = 1 ∨ c = 2 := by
    simp only [List.mem_cons, List.not_mem_nil, or_false] at m3
    omega
  have huc : 1 ≤ u * c ∧ u * c ≤ 200 := by rcases hc with rfl | rfl <;> omega
  obtain ⟨p, rfl, hp, hpl⟩ := drawn_ok w m2
  obtain ⟨_, _, hx⟩ := said_all hp
  have e4 := KeyedOf_full p hp u (u * c) (by omega) (by omega)
  obtain ⟨w0, q0, hw0⟩ := wordsOf_ne p
  have k1 := elT_odd u (u * c) (wordsOf p) (by rw [hw0]; simp) hx
  have k2 := elT_len u (u * c) (wordsOf p)
  rw [words_sum] at k2
  have k3 := elT_all u (u * c) 1400 (by omega) (by omega) (wordsOf p)
  obtain ⟨L', s', e5, r1, r2, r3, r4⟩ := changed_run u hu l hl (elT u (u * c) (wordsOf p)).length (by omega) (elT u (u * c) (wordsOf p)).length 0 _ (s + 1 + 1 + 1) (by omega) rfl (fun j h => by
    have := k3 _ (List.getElem_mem h)
    exact ⟨this.1, by omega, fun _ => this.2⟩) (by omega) (by omega)
  refine ⟨L', s', Ev.bind e1 (Ev.bind e2 (Ev.bind e3 ?_)), by omega, by omega, r2, by omega, by omega⟩
  simp only [wrap_id (e := u * c) (by omega) (by omega)]
  exact Ev.bind e4 e5
end Go.EV.Pure
namespace Go.EV.Pure
open Go Go.EV Go.RowKit
set_option linter.unusedSimpArgs false
/-! Marks and gaps, cleaned. -/
/-- Gaps (at odd places) are p, marks (at even places) are q. -/
def MG (p q : Int → Prop) (L : List Int) : Prop := ∀ (i : Nat) (h : i < L.length), (i % 2 = 1 → p L[i]) ∧ (i % 2 = 0 → q L[i])
theorem MG.take {p q : Int → Prop} {L : List Int} (h : MG p q L) (n : Nat) : MG p q (L.take n) := fun i hi => by
  have hi' : i < L.length := by simp at hi; omega
  rw [List.getElem_take]
  exact h i hi'
theorem take_one (L : List Int) (h : 0 < L.length) : L.take 1 = [L[0]] := by
  have := List.take_succ_eq_append_getElem (l := L) (i := 0) h
  simpa using this
theorem take2 (D : List Int) (i : Nat) (h : i + 1 < D.length) : D.take i ++ [D[i], D[i + 1]] = D.take (i + 2) := by
  have e1 : D.take (i + 2) = D.take (i + 1) ++ [D[i + 1]] := List.take_succ_eq_append_getElem (i := i + 1) h
  have e2 : D.take (i + 1) = D.take i ++ [D[i]] := List.take_succ_eq_append_getElem (i := i) (by omega)
  rw [e1, e2, List.append_assoc]
  rfl
theorem closed_same (D : List Int) (least : Int) (hl : D.length ≤ 20000) (ho : D.length % 2 = 1) (h : ∀ x ∈ D, least ≤ x) : Ev (fun k => key_closed.f k D least) D := by
  have run : ∀ (d i : Nat), i + 2 * d = D.length → Ev (fun k => key_closed.l0 k D least (i : Int) (D.take i)) D := by
    intro d
    induction d with
    | zero =>
      intro i hi
      obtain rfl : i = D.length := by omega
      rw [List.take_length]
      refine Ev.step (f := fun _ => some _) (fun k => ?_) (Ev.now _)
      simp only [key_closed.l0]
      rw [if_neg (by omega)]
    | succ d ih =>
      intro i hi
      have hi1 : i + 1 < D.length := by omega
      have hi0 : i < D.length := by omega
      have r1 : rd D ((i + 1 : Nat) : Int) = D[i + 1] := rd_get D (i + 1) hi1
      have w1 : wrap64 ((i : Int) + 1) = ((i + 1 : Nat) : Int) := wrap_succ (by omega)
      have w2 : wrap64 ((i : Int) + 2) = ((i + 2 : Nat) : Int) := by rw [wrap_id (by omega) (by omega)]; omega
      have hg := h _ (List.getElem_mem hi0)
      have e : Ev (fun k => key_closed.j4 k D least (i : Int) (D.take i ++ [D[i], D[i + 1]])) D := Ev.step (fun k => by simp only [key_closed.j4, w2, take2 D i hi1]) (ih (i + 2) (by omega))
      refine Ev.succ ?_
      simp only [key_closed.l0, rd_get D i hi0, w1, r1]
      exact Ev.pos (by omega) (Ev.pos (by omega) (Ev.pos (by omega) (Ev.neg (by omega) (Ev.pos (by omega) (Ev.pos (by omega) (Ev.pos (by omega) (Ev.pos (by omega) (Ev.pos (by simp; omega) e))))))))
  have r0 : rd D 0 = D[0]'(by omega) := rd_get D 0 (by omega)
  unfold key_closed.f
  simp only [r0]
  have := run ((D.length - 1) / 2) 1 (by omega)
  rw [take_one D (by omega)] at this
  exact Ev.pos (by omega) this
theorem small_spec (l : List Int) (hl : l.length ≤ 20000) (h : ∀ x ∈ l, x ≤ 100000) : Ev (fun k => slices_ContainsFunc_int_int_of_key_Clean_1.f k l) false := by
  obtain ⟨v, rfl, hv⟩ := loop l (fun k i (_ : Unit) => slices_IndexFunc_int_int_of_key_Clean_1.l0 k l i) (fun _ _ => True) (fun v => v = -1)
    (fun i _ hi _ => .inl ⟨(), trivial, fun v hv => Ev.step (fun k => by
      have hx := h _ (List.getElem_mem hi)
      simp only [slices_IndexFunc_int_int_of_key_Clean_1.l0, key_Clean_1.f]
      rw [if_pos (by omega), if_pos (by omega), if_pos (by omega), rd_get l i hi]
      simp only [Option.bind_some]
      rw [if_neg (by simp; omega), wrap_succ (by omega)]) hv⟩)
    (fun _ _ => ⟨-1, rfl, Ev.step (f := fun _ => some _) (fun k => by simp only [slices_IndexFunc_int_int_of_key_Clean_1.l0]; rw [if_neg (by omega)]) (Ev.now _)⟩) 0 () (by omega) trivial
  exact Ev.bind (f := fun k => slices_IndexFunc_int_int_of_key_Clean_1.l0 k l 0) hv (Ev.now _)
end Go.EV.Pure
namespace Go.EV.Pure
open Go Go.EV Go.RowKit
set_option linter.unusedSimpArgs false
set_option linter.unusedVariables false
set_option maxRecDepth 100000
/-! Marks that are handed in stay. -/
theorem cleaned_sameT (D : List Int) (least : Int) (hl : D.length ≤ 20000) (ho : D.length % 2 = 1) (h : ∀ x ∈ D, least ≤ x) : Ev (fun k => key_cleaned.f k D least) (D, ([] : List Int)) := by
  have run : ∀ (d i : Nat), i + 2 * d = D.length → 1 ≤ i → Ev (fun k => key_cleaned.l2 k least D (i : Int) ([] : List Int) (D.take i)) (D, ([] : List Int)) := by
    intro d
    induction d with
    | zero =>
      intro i hi _
      obtain rfl : i = D.length := by omega
      rw [List.take_length]
      refine Ev.step (f := fun _ => some _) (fun k => ?_) (Ev.now _)
      simp only [key_cleaned.l2]
      rw [if_neg (by omega)]
    | succ d ih =>
      intro i hi hpos
      have hi1 : i + 1 < D.length := by omega
      have hi0 : i < D.length := by omega
      have r1 : rd D ((i + 1 : Nat) : Int) = D[i + 1] := rd_get D (i + 1) hi1
      have w1 : wrap64 ((i : Int) + 1) = ((i + 1 : Nat) : Int) := wrap_succ (by omega)
      have w2 : wrap64 ((i : Int) + 2) = ((i + 2 : Nat) : Int) := by rw [wrap_id (by omega) (by omega)]; omega
      have tl : (D.take i).length = i := by simp; omega
      have wn : wrap64 (((D.take i).length : Int) - 1) = ((i - 1 : Nat) : Int) := by rw [tl, wrap_id (by omega) (by omega)]; omega
      have rn : rd (D.take i) ((i - 1 : Nat) : Int) = D[i - 1]'(by omega) := by rw [rd_get _ (i - 1) (by omega), List.getElem_take]
      have hg := h _ (List.getElem_mem (show i - 1 < D.length by omega))
      have e := ih (i + 2) (by omega) (by omega)
      rw [← take2 D i hi1] at e
      refine Ev.succ ?_
      simp only [key_cleaned.l2, wn, rn, rd_get D i hi0, w1, r1, w2, List.drop_nil]
      exact Ev.pos (by omega) (Ev.pos (by omega) (Ev.pos (by omega) (Ev.neg (by omega) (Ev.pos (by omega) (Ev.pos (by omega) (Ev.pos (by omega) (Ev.pos (by omega) (Ev.pos (by simp; omega) e))))))))
  have r0 : rd D 0 = D[0]'(by omega) := rd_get D 0 (by omega)
  have w1 : wrap64 ((D.length : Int) - 1) = ((D.length - 1 : Nat) : Int) := by rw [wrap_id (by omega) (by omega)]; omega
  have rl := rd_get D (D.length - 1) (by omega)
  have hf := h _ (List.getElem_mem (show 0 < D.length by omega))
  have hla := h _ (List.getElem_mem (show D.length - 1 < D.length by omega))
  have e2 := run ((D.length - 1) / 2) 1 (by omega) (by omega)
  rw [take_one D (by omega)] at e2
  have e1 : Ev (fun k => key_cleaned.l1 k least D) (D, ([] : List Int)) := by
    refine Ev.succ ?_
    simp only [key_cleaned.l1, w1, rl, r0]
    exact Ev.pos (by omega) (Ev.pos (by omega) (Ev.pos (by omega) (Ev.neg (by omega) (Ev.neg (by omega) (Ev.pos (by omega) e2)))))
  refine Ev.succ (g := fun k => key_cleaned.l0 k least D) ?_
  simp only [key_cleaned.l0, r0]
  exact Ev.pos (by omega) (Ev.pos (by omega) (Ev.neg (by omega) e1))
theorem Clean_sameT (D : List Int) (least : Int) (hl : D.length ≤ 20000) (ho : D.length % 2 = 1) (h : ∀ x ∈ D, least ≤ x ∧ x ≤ 100000) (hle : 1 ≤ least ∧ least ≤ 100000) : Ev (fun k => key_Clean.f k D least) (D, ([] : List Int), 0) := by
  have hc := CheckOK D ⟨hl, fun x hx => by have := h x hx; omega⟩ ho
  have hO : kit_Outside.f least 1 100000 = some false := by unfold kit_Outside.f; rw [if_neg (by omega)]; simp; omega
  unfold key_Clean.f
  simp only [hO, Option.bind_some]
  exact Ev.bind hc (Ev.pos rfl (Ev.neg Bool.false_ne_true (Ev.bind (closed_same D least hl ho (fun x hx => (h x hx).1)) (Ev.bind (cleaned_sameT D least hl ho (fun x hx => (h x hx).1)) (Ev.neg (by simp only; omega) (Ev.bind (small_spec D hl (fun x hx => (h x hx).2)) (Ev.neg Bool.false_ne_true (Ev.now _))))))))
theorem Uneven_some (l : List Int) (u : Int) (hl : MK 100000 l) (ho : l.length % 2 = 1) (hu : 1 ≤ u ∧ u ≤ 2000) : ∃ o : List Int, Ev (fun k => key_Uneven.f k l u) (o, 0) ∧ o.length ≤ l.length := by
  have hll := hl.1
  have run : ∀ (d i : Nat) (o : List Int), i + d = l.length → o.length ≤ i → ∃ o' : List Int, Ev (fun k => key_Uneven.l0 k l u (i : Int) o) (o', 0) ∧ o'.length ≤ l.length := by
    intro d
    induction d with
    | zero =>
      intro i o hi h
      refine ⟨o, Ev.succ ?_, by omega⟩
      simp only [key_Uneven.l0]
      exact Ev.neg (by omega) (Ev.now _)
    | succ d ih =>
      intro i o hi h
      have hil : i < l.length := by omega
      have ha := hl.2 _ (List.getElem_mem hil)
      have hn := nearest_ev l[i] u (decide (i % 2 = 0)) (by omega) (by omega)
      have next : ∀ o2 : List Int, o2.length ≤ i + 1 → ∃ o' : List Int, Ev (fun k => key_Uneven.j11 k l u (i : Int) o2) (o', 0) ∧ o'.length ≤ l.length := fun o2 h2 => by
        obtain ⟨o', e, q⟩ := ih (i + 1) o2 (by omega) h2
        exact ⟨o', Ev.step (fun k => by simp only [key_Uneven.j11, wrap_succ (show i ≤ 1000000000000000 by omega)]) e, q⟩
      by_cases c : wrap64 (2 * (nearF l[i] u (decide (i % 2 = 0))).2) > u
      · obtain ⟨o', e, q⟩ := next (o ++ [(i : Int)]) (by simp; omega)
        refine ⟨o', Ev.succ ?_, q⟩
        simp only [key_Uneven.l0, rd_get l i hil, isMark_ev, Option.bind_some]
        exact Ev.pos (by omega) (Ev.pos (by omega) (Ev.pos (by omega) (Ev.bind hn (Ev.pos c (Ev.pos (by omega) e)))))
      · obtain ⟨o', e, q⟩ := next o (by omega)
        refine ⟨o', Ev.succ ?_, q⟩
        simp only [key_Uneven.l0, rd_get l i hil, isMark_ev, Option.bind_some]
        exact Ev.pos (by omega) (Ev.pos (by omega) (Ev.pos (by omega) (Ev.bind hn (Ev.neg c e))))
  obtain ⟨o', e, q⟩ := run l.length 0 [] (by omega) (by simp)
  refine ⟨o', ?_, q⟩
  unfold key_Uneven.f
  exact Ev.bind (unitOK l u hl ho hu) (Ev.pos rfl e)
theorem KeysStay (l : List Int) (hl : l.length ≤ 140737488351232) : ∃ k, pilekeep1_KeysStay.f k l = some true := by
  obtain ⟨x, s, e1, x1, x2, x3, s0, s1⟩ := RightKeyed_sp l hl 0 (by omega) (by omega)
  have hx : MK 100000 x := ⟨by omega, fun y hy => by have := x3 y hy; omega⟩
  have eC := Clean_sameT x 1 (by omega) x1 (fun y hy => by have := x3 y hy; omega) (by omega)
  obtain ⟨o, eU, o1⟩ := Uneven_some x 60 hx x1 (by omega)
  obtain ⟨c, hb, eH⟩ := Hear_ev x hx x1
  have hh : (hearR x c).2.2.2.2 = 0 := by
    unfold hearR
    split <;> rfl
  have hR : Ev (fun k => (pilekeep1_ready.f k).bind fun r => Option.some r) true := Ev.bind ready_ev (Ev.now _)
  have hsg : sgL.length = 40 := rfl
  have f2 : ∀ (d i : Nat) (q : List (ByteArray × ByteArray)), i + d = 40 → q.length = 40 → Ev (fun k => pilekeep1_KeysStay.l2 k x x 40 (i : Int) q) true := by
    intro d
    induction d with
    | zero =>
      intro i q hi hq
      refine Ev.succ ?_
      simp only [pilekeep1_KeysStay.l2]
      exact Ev.neg (by omega) (Ev.bind (Equal_same x (by omega)) (Ev.pos rfl (Ev.bind Codes_sg (Ev.bind CodesOf_sg (Ev.bind (EqualSg sgL (by omega)) (Ev.pos rfl hR))))))
    | succ d ih =>
      intro i q hi hq
      refine Ev.succ ?_
      simp only [pilekeep1_KeysStay.l2, wrap_succ (show i ≤ 1000000000000000 by omega)]
      exact Ev.pos (by omega) (Ev.pos (by omega) (Ev.pos (by omega) (ih (i + 1) _ (by omega) (by simpa using hq))))
  have f1 : ∀ (d i : Nat) (q : List Int), i + d = o.length → q.length = o.length → Ev (fun k => pilekeep1_KeysStay.l1 k x x o (i : Int) q) true := by
    intro d
    induction d with
    | zero =>
      intro i q hi hq
      refine Ev.succ ?_
      simp only [pilekeep1_KeysStay.l1]
      refine Ev.neg (by omega) (Ev.bind Codes_sg ?_)
      rw [hsg]
      exact f2 40 0 sgL (by omega) hsg
    | succ d ih =>
      intro i q hi hq
      refine Ev.succ ?_
      simp only [pilekeep1_KeysStay.l1, wrap_succ (show i ≤ 1000000000000000 by omega)]
      exact Ev.pos (by omega) (Ev.pos (by omega) (Ev.pos (by omega) (ih (i + 1) _ (by omega) (by simpa using hq))))
  have f0 : ∀ (d i : Nat) (q : List Int), i + d = x.length → q.length = x.length → Ev (fun k => pilekeep1_KeysStay.l0 k x x (x.length : Int) (i : Int) ([] : List Int) q o) true := by
    intro d
    induction d with
    | zero =>
      intro i q hi hq
      refine Ev.succ ?_
      simp only [pilekeep1_KeysStay.l0]
      exact Ev.neg (by omega) (f1 o.length 0 o (by omega) rfl)
    | succ d ih =>
      intro i q hi hq
      refine Ev.succ ?_
      simp only [pilekeep1_KeysStay.l0, wrap_succ (show i ≤ 1000000000000000 by omega)]
      exact Ev.pos (by omega) (Ev.pos (by omega) (Ev.pos (by omega) (ih (i + 1) _ (by omega) (by simpa using hq))))
  exact (Ev.bind e1 (Ev.bind e1 (Ev.bind eC (Ev.bind eU (Ev.bind eH (Ev.pos rfl (Ev.pos rfl (Ev.pos hh (f0 x.length 0 x (by omega) rfl))))))))).ex
end Go.EV.Pure
