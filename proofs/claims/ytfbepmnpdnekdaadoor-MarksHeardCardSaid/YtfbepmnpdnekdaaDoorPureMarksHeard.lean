/- The plain law: the Lean functions answer true for every list. -/
import Derived.Test.YtfbepmnpdnekdaaDoorXMarksHeard
import Derived.KernelRfl
import Derived.Lib.SlTrimSet
import Derived.Lib.SplitLaws
import Derived.Lib.Join
set_option linter.unusedVariables false
set_option linter.unusedSimpArgs false
/-! Plain laws that all statements use: numbers that don't wrap, functions with fuel, loops over lists, the stream's draws. -/
namespace Go.EV.Pure
open Go Go.EV Go.RowKit
theorem wrap_id {e : Int} (h1 : -9223372036854775808 ≤ e) (h2 : e ≤ 9223372036854775807) : wrap64 e = e := by
  unfold wrap64
  omega
theorem tmod_pos {a n : Int} (h : 0 ≤ a) : a.tmod n = a % n := Int.tmod_eq_emod_of_nonneg h
theorem tdiv_pos {a n : Int} (h : 0 ≤ a) : a.tdiv n = a / n := Int.tdiv_eq_ediv_of_nonneg h
theorem mx_eq (a b : Int) : mx a b = if a < b then b else a := rfl
theorem mn_eq (a b : Int) : mn a b = if b < a then b else a := rfl
theorem rd_get (l : List Int) (i : Nat) (h : i < l.length) : rd l (i : Int) = l[i] := by
  simp [rd, List.getD, List.getElem?_eq_getElem h]
theorem rdE_get {α : Type} (E : Enc α) (l : List α) (i : Nat) (h : i < l.length) : rdE E l (i : Int) = l[i] := by
  simp [rdE, List.getD, List.getElem?_eq_getElem h]
theorem rd_mem (l : List Int) (i : Int) (h0 : 0 ≤ i) (h1 : i < l.length) : rd l i ∈ l := by
  have h : i.toNat < l.length := by omega
  have : rd l i = l[i.toNat] := by simp [rd, List.getD, List.getElem?_eq_getElem h]
  rw [this]
  exact List.getElem_mem h
theorem rdE_mem {α : Type} (E : Enc α) (l : List α) (i : Int) (h0 : 0 ≤ i) (h1 : i < l.length) : rdE E l i ∈ l := by
  have h : i.toNat < l.length := by omega
  have : rdE E l i = l[i.toNat] := by simp [rdE, List.getD, List.getElem?_eq_getElem h]
  rw [this]
  exact List.getElem_mem h
theorem wrap_succ {i : Nat} (h : i ≤ 1000000000000000) : wrap64 ((i : Int) + 1) = ((i + 1 : Nat) : Int) := by rw [wrap_id (by omega) (by omega)]; omega

/-- From some fuel on the function answers v. -/
def Ev {α : Type} (f : Nat → Option α) (v : α) : Prop := ∃ K, ∀ k, K ≤ k → f k = some v
section
variable {α β : Type}
theorem Ev.now (v : α) : Ev (fun _ => some v) v := ⟨0, fun _ _ => rfl⟩
theorem Ev.of {f : Nat → Option α} {v : α} (h : ∀ k, f k = some v) : Ev f v := ⟨0, fun k _ => h k⟩
theorem Ev.from {f : Nat → Option α} {v : α} (n : Nat) (h : ∀ k, f (k + n) = some v) : Ev f v := ⟨n, fun k hk => by
  obtain ⟨m, rfl⟩ : ∃ m, k = m + n := ⟨k - n, by omega⟩
  exact h m⟩
theorem Ev.bind {f : Nat → Option α} {a : α} {g : Nat → α → Option β} {v : β} (h : Ev f a) (h2 : Ev (fun k => g k a) v) : Ev (fun k => (f k).bind (g k)) v := by
  obtain ⟨K, h⟩ := h
  obtain ⟨K2, h2⟩ := h2
  exact ⟨max K K2, fun k hk => by show (f k).bind (g k) = some v; rw [h k (by omega)]; exact h2 k (by omega)⟩
theorem Ev.step {g f : Nat → Option α} {v : α} (h : ∀ k, g (k + 1) = f k) (h2 : Ev f v) : Ev g v := by
  obtain ⟨K, h2⟩ := h2
  exact ⟨K + 1, fun k hk => by
    obtain ⟨m, rfl⟩ : ∃ m, k = m + 1 := ⟨k - 1, by omega⟩
    rw [h m]; exact h2 m (by omega)⟩
theorem Ev.succ {g : Nat → Option α} {v : α} (h : Ev (fun k => g (k + 1)) v) : Ev g v := Ev.step (fun _ => rfl) h
theorem Ev.congr {f g : Nat → Option α} {v : α} (h : ∀ k, f k = g k) (h2 : Ev g v) : Ev f v := by
  obtain ⟨K, h2⟩ := h2
  exact ⟨K, fun k hk => (h k).trans (h2 k hk)⟩
theorem Ev.ex {f : Nat → Option α} {v : α} (h : Ev f v) : ∃ k, f k = some v := let ⟨K, h⟩ := h; ⟨K, h K (Nat.le_refl _)⟩
theorem Ev.uniq {f : Nat → Option α} {v w : α} (h : Ev f v) (h2 : Ev f w) : v = w := by
  obtain ⟨K, h⟩ := h
  obtain ⟨K2, h2⟩ := h2
  have a := h (max K K2) (by omega)
  rw [h2 (max K K2) (by omega)] at a
  exact (Option.some.inj a).symm
theorem Ev.ite {p : Prop} [Decidable p] {f g : Nat → Option α} {v : α} (h1 : p → Ev f v) (h2 : ¬ p → Ev g v) : Ev (fun k => if p then f k else g k) v := by
  by_cases c : p
  · simp only [if_pos c]; exact h1 c
  · simp only [if_neg c]; exact h2 c
theorem Ev.pos {p : Prop} [Decidable p] {f g : Nat → Option α} {v : α} (c : p) (h1 : Ev f v) : Ev (fun k => if p then f k else g k) v := by simp only [if_pos c]; exact h1
theorem Ev.neg {p : Prop} [Decidable p] {f g : Nat → Option α} {v : α} (c : ¬ p) (h1 : Ev g v) : Ev (fun k => if p then f k else g k) v := by simp only [if_neg c]; exact h1

/-- A loop over a list by its index: what holds of its state carries over each round, or the round is the last one. -/
theorem loop {σ ρ : Type} (l : List α) (F : Nat → Int → σ → Option ρ) (I : Nat → σ → Prop) (post : ρ → Prop)
    (hstep : ∀ (i : Nat) (s : σ), i < l.length → I i s → (∃ s', I (i + 1) s' ∧ ∀ v, Ev (fun k => F k ((i + 1 : Nat) : Int) s') v → Ev (fun k => F k (i : Int) s) v) ∨ ∃ v, post v ∧ Ev (fun k => F k (i : Int) s) v)
    (hend : ∀ s, I l.length s → ∃ v, post v ∧ Ev (fun k => F k (l.length : Int) s) v) :
    ∀ (i : Nat) (s : σ), i ≤ l.length → I i s → ∃ v, post v ∧ Ev (fun k => F k (i : Int) s) v := by
  intro i
  generalize hd : l.length - i = d
  induction d generalizing i with
  | zero =>
    intro s hi hI
    obtain rfl : i = l.length := by omega
    exact hend s hI
  | succ d ih =>
    intro s hi hI
    rcases hstep i s (by omega) hI with ⟨s', h1, h2⟩ | h
    · obtain ⟨v, h3, h4⟩ := ih (i + 1) (by omega) s' (by omega) h1
      exact ⟨v, h3, h2 v h4⟩
    · exact h
end
end Go.EV.Pure
namespace Go.EV.Pure
open Go Go.EV Go.RowKit
set_option linter.unusedSimpArgs false
/-! Strings as lists of bytes. -/
def eB : ByteArray := ⟨#[]⟩
def mk (p : List UInt8) : ByteArray := ⟨p.toArray⟩
theorem mk_size (p : List UInt8) : (mk p).size = p.length := by simp [mk, ByteArray.size]
theorem mk_of (s : ByteArray) : s = mk s.data.toList := by
  apply ByteArray.ext
  simp [mk]
theorem mk_append (p q : List UInt8) : mk p ++ mk q = mk (p ++ q) := by
  apply ByteArray.ext
  simp [mk]
theorem mk_extract (p : List UInt8) (i j : Nat) : (mk p).extract i j = mk ((p.take j).drop i) := by
  apply ByteArray.ext
  simp only [mk, ByteArray.data_extract]
  apply Array.ext'
  simp [List.extract_eq_take_drop, List.drop_take]
theorem mk_bt (p : List UInt8) (i : Nat) (h : i < p.length) : bt (mk p) (i : Int) = (p[i].toNat : Int) := by
  unfold bt
  have hs : (Int.toNat (i : Int)) < (mk p).size := by simpa [mk_size] using h
  rw [dif_pos hs]
  have : (mk p)[Int.toNat (i : Int)]'hs = p[i] := by
    show (p.toArray)[Int.toNat (i : Int)]'_ = _
    simp only [Int.toNat_natCast, List.getElem_toArray]
    rfl
  rw [this]
  rfl
theorem all_bytes {P : UInt8 → Prop} (h : ∀ n : Fin 256, P (UInt8.ofNat n.val)) (b : UInt8) : P b := by
  have := h ⟨b.toNat, UInt8.toNat_lt b⟩
  simpa using this
end Go.EV.Pure
namespace Go.EV.Pure
open Go Go.EV Go.RowKit
theorem Below_j (x : Int) : Ev (fun k => pilemake_Below.j6 k x) x := Ev.from 1 fun k => rfl
theorem Below_spec (x n : Int) (hn : n ≤ 9223372036854775807) : ∃ r, Ev (fun k => pilemake_Below.f k x n) r ∧ 0 ≤ r ∧ (1 ≤ n → r < n) ∧ (n < 1 → r = 0) := by
  unfold pilemake_Below.f
  by_cases h : n < 1
  · simp only [if_pos h]
    exact ⟨0, Ev.now _, by omega, by omega, fun _ => rfl⟩
  · simp only [if_neg h, if_neg (show ¬ n = 0 by omega)]
    have hm := Int.natAbs_tmod x n
    have hm2 := Nat.mod_lt x.natAbs (show n.natAbs > 0 by omega)
    have h1 : x.tmod n < n := by omega
    have h2 : -n < x.tmod n := by omega
    by_cases h3 : x.tmod n < 0
    · simp only [if_pos h3]
      refine ⟨_, Below_j _, ?_, ?_, ?_⟩ <;> rw [wrap_id (by omega) (by omega)] <;> omega
    · simp only [if_neg h3]
      exact ⟨_, Below_j _, by omega, by omega, by omega⟩
theorem Next_spec (l : List Int) (s n : Int) (h0 : 0 ≤ s) (h1 : s ≤ 4611686018427387904) (hn : n ≤ 9223372036854775807) (hl : l.length ≤ 140737488351232) :
    ∃ r, Ev (fun k => pilemake_Stream_Next.f k l s n) (r, l, s + 1) ∧ 0 ≤ r ∧ (1 ≤ n → r < n) := by
  unfold pilemake_Stream_Next.f
  have hs : wrap64 (s + 1) = s + 1 := wrap_id (by omega) (by omega)
  have hs2 : wrap64 (s + 1 - 1) = s := by rw [wrap_id (by omega) (by omega)]; omega
  simp only [hs, hs2]
  by_cases h : (l.length : Int) = 0
  · simp only [if_pos h]
    obtain ⟨r, hr, r0, r1, _⟩ := Below_spec (wrap64 ((s + 1) * 7919)) n hn
    exact ⟨r, Ev.bind hr (Ev.now _), r0, r1⟩
  · have e : Int.tmod s (l.length : Int) = s % (l.length : Int) := Int.tmod_eq_emod_of_nonneg h0
    have m0 : 0 ≤ s % (l.length : Int) := Int.emod_nonneg _ h
    have m1 : s % (l.length : Int) < (l.length : Int) := Int.emod_lt_of_pos _ (by omega)
    simp only [if_neg h, e, if_pos m0, if_pos m1]
    obtain ⟨a, ha, _⟩ := Below_spec (rd l (s % (l.length : Int))) 1073741824 (by omega)
    obtain ⟨r, hr, r0, r1, _⟩ := Below_spec (wrap64 (a + wrap64 (wrap64 (Int.tdiv s (l.length : Int)) * wrap64 (7919 + s % (l.length : Int))))) n hn
    exact ⟨r, Ev.bind ha (Ev.bind hr (Ev.now _)), r0, r1⟩
theorem Pick_spec (l : List Int) (s : Int) (m : List Int) (h0 : 0 ≤ s) (h1 : s ≤ 4611686018427387904) (hl : l.length ≤ 140737488351232) (hm : 1 ≤ m.length) (hm2 : m.length ≤ 1000) :
    ∃ r, Ev (fun k => pilemake_Stream_Pick.f k l s m) (r, l, s + 1) ∧ r ∈ m := by
  obtain ⟨r, hr, r0, r1⟩ := Next_spec l s (m.length : Int) h0 h1 (by omega) hl
  have r2 := r1 (by omega)
  exact ⟨rd m r, Ev.bind hr (Ev.pos r0 (Ev.pos r2 (Ev.now _))), rd_mem m r r0 r2⟩
theorem Flip_spec (l : List Int) (s n : Int) (h0 : 0 ≤ s) (h1 : s ≤ 4611686018427387904) (hn : n ≤ 9223372036854775807) (hl : l.length ≤ 140737488351232) :
    ∃ b, Ev (fun k => pilemake_Stream_Flip.f k l s n) (b, l, s + 1) := by
  obtain ⟨r, hr, _⟩ := Next_spec l s n h0 h1 hn hl
  exact ⟨decide (r = 0), Ev.bind hr (Ev.now _)⟩
end Go.EV.Pure
namespace Go.EV.Pure
open Go Go.EV Go.RowKit
set_option linter.unusedSimpArgs false
set_option maxRecDepth 100000
/-! Strings that the stream draws: of ASCII, and short. -/
def GS (n : Nat) (s : ByteArray) : Prop := asciiT s = true ∧ s.size ≤ n
theorem GS.mono {n m : Nat} {a : ByteArray} (ha : GS n a) (h : n ≤ m) : GS m a := ⟨ha.1, Nat.le_trans ha.2 h⟩
theorem Some_spec (l : List Int) (s : Int) (m : List ByteArray) (h0 : 0 ≤ s) (h1 : s ≤ 4611686018427387904) (hl : l.length ≤ 140737488351232) (hm : 1 ≤ m.length) (hm2 : m.length ≤ 1000) :
    ∃ r, Ev (fun k => pilemake_Stream_Some.f k l s m) (r, l, s + 1) ∧ r ∈ m := by
  obtain ⟨r, hr, r0, r1⟩ := Next_spec l s (m.length : Int) h0 h1 (by omega) hl
  have r2 := r1 (by omega)
  exact ⟨rdE eS m r, Ev.bind hr (Ev.pos r0 (Ev.pos r2 (Ev.now _))), rdE_mem eS m r r0 r2⟩
end Go.EV.Pure
namespace Go.EV.Pure
open Go Go.EV Go.RowKit
theorem Equal_same (D : List Int) (hl : D.length ≤ 20000) : Ev (fun k => slices_Equal_int_int.f k D D) true := by
  obtain ⟨v, rfl, hv⟩ := loop D (fun k i (_ : Unit) => slices_Equal_int_int.l0 k D D i) (fun _ _ => True) (fun v => v = true)
    (fun i _ hi _ => .inl ⟨(), trivial, fun v hv => Ev.step (fun k => by
      simp only [slices_Equal_int_int.l0]
      rw [if_pos (by omega), if_pos (by omega), if_pos (by omega), if_pos (by omega), if_pos (by omega), if_pos trivial, wrap_succ (by omega)]) hv⟩)
    (fun _ _ => ⟨true, rfl, Ev.step (f := fun _ => some _) (fun k => by simp only [slices_Equal_int_int.l0]; rw [if_neg (by omega)]) (Ev.now _)⟩) 0 () (by omega) trivial
  unfold slices_Equal_int_int.f
  exact Ev.pos rfl hv
end Go.EV.Pure
namespace Go.EV.Pure
open Go Go.EV Go.RowKit
set_option linter.unusedSimpArgs false
set_option maxRecDepth 100000
/-! The table of codes, words, and what can be said. -/
theorem index_hit (p rest : List UInt8) (h : (32 : UInt8) ∉ p) : Lib.index (p ++ 32 :: rest) [32] = (p.length : Int) := by
  induction p with
  | nil => simp [Lib.index, List.isPrefixOf]
  | cons b p ih =>
    have ih := ih (fun h' => h (by simp [h']))
    have hb : ¬ (32 : UInt8) = b := fun e => h (by simp [e])
    simp only [List.cons_append, Lib.index, List.isPrefixOf, beq_iff_eq, ih]
    have : ((32 : UInt8) == b) = false := by simpa using hb
    rw [this]
    simp <;> omega
theorem index_miss (p : List UInt8) (h : (32 : UInt8) ∉ p) : Lib.index p [32] = -1 := by
  induction p with
  | nil => simp [Lib.index]
  | cons b p ih =>
    have ih := ih (fun h' => h (by simp [h']))
    have hb : ¬ (32 : UInt8) = b := fun e => h (by simp [e])
    have : ((32 : UInt8) == b) = false := by simpa using hb
    simp only [Lib.index, List.isPrefixOf, ih, this]
    simp
def joinSp : List (List UInt8) → List UInt8
  | [] => []
  | [p] => p
  | p :: q :: r => p ++ 32 :: joinSp (q :: r)
theorem ext_head (p rest : List UInt8) : (mk (p ++ 32 :: rest)).extract 0 p.length = mk p := by
  rw [mk_extract]
  simp
theorem ext_tail (p rest : List UInt8) : (mk (p ++ 32 :: rest)).extract (p.length + 1) (mk (p ++ 32 :: rest)).size = mk rest := by
  rw [mk_extract, mk_size, List.take_length]
  congr 1
  rw [List.drop_append, List.drop_eq_nil_of_le (by omega), List.nil_append, Nat.add_sub_cancel_left]
  rfl
theorem split_all (sp : ByteArray) (hsp : sp = mk [32]) : ∀ (q : List UInt8) (r : List (List UInt8)), (∀ p ∈ q :: r, (32 : UInt8) ∉ p) → Lib.countB (mk (joinSp (q :: r))) sp = r.length ∧ Lib.splitB sp 0 r.length (mk (joinSp (q :: r))) = (q :: r).map mk
  | q, [], h => by
    subst hsp
    refine ⟨?_, rfl⟩
    exact Lib.countB_miss _ _ (index_miss q (h q (by simp)))
  | q, p :: r, h => by
    obtain ⟨h1, h2⟩ := split_all sp hsp p r (fun x hx => h x (by simp [List.mem_cons.1 hx]))
    subst hsp
    have hi : Lib.indexB (mk (joinSp (q :: p :: r))) (mk [32]) = ((q.length : Nat) : Int) := index_hit q _ (h q (by simp))
    have hs : (mk [32]).size = 1 := rfl
    have hj : joinSp (q :: p :: r) = q ++ 32 :: joinSp (p :: r) := rfl
    constructor
    · rw [Lib.countB_hit _ _ q.length (by rw [hs]; omega) hi, hs, hj, ext_tail, h1]
      simp
      omega
    · rw [List.length_cons, Lib.splitB_hit _ _ _ _ q.length hi, hs, hj, Nat.add_zero, ext_head, ext_tail, h2]
      rfl
theorem dec_at (p : List UInt8) (j : Nat) (h : j < p.length) (ha : p[j].toNat < 128) : Utf8.decode (mk p) j = (p[j].toNat, 1) :=
  decode_ascii (mk p) j (by rw [mk_size]; exact h) ha
/-- A text's words. -/
def wordsOf : List UInt8 → List (List UInt8)
  | [] => [[]]
  | b :: r => if b = 32 then [] :: wordsOf r else match wordsOf r with
    | [] => [[b]]
    | w :: q => (b :: w) :: q
theorem wordsOf_ne (p : List UInt8) : ∃ w q, wordsOf p = w :: q := by
  cases p with
  | nil => exact ⟨_, _, rfl⟩
  | cons b r =>
    unfold wordsOf
    split
    · exact ⟨_, _, rfl⟩
    · split
      · exact ⟨_, _, rfl⟩
      · exact ⟨_, _, rfl⟩
theorem joinSp_words : ∀ p : List UInt8, joinSp (wordsOf p) = p
  | [] => rfl
  | b :: r => by
    have ih := joinSp_words r
    obtain ⟨w, q, hw⟩ := wordsOf_ne r
    unfold wordsOf
    by_cases c : b = 32
    · rw [if_pos c, hw]
      rw [hw] at ih
      show [] ++ 32 :: joinSp (w :: q) = _
      rw [ih, c]; rfl
    · rw [if_neg c, hw]
      rw [hw] at ih
      cases q with
      | nil => show b :: w = _; rw [← ih]; rfl
      | cons x y => show (b :: w) ++ 32 :: joinSp (x :: y) = _; rw [← ih]; rfl
theorem words_no32 : ∀ (p : List UInt8), ∀ w ∈ wordsOf p, (32 : UInt8) ∉ w
  | [] => fun w hw => by
    have : w = [] := by simpa [wordsOf] using hw
    rw [this]; simp
  | b :: r => fun w hw => by
    have ih := words_no32 r
    obtain ⟨v, q, hv⟩ := wordsOf_ne r
    unfold wordsOf at hw
    by_cases c : b = 32
    · rw [if_pos c] at hw
      rcases List.mem_cons.1 hw with rfl | hw
      · simp
      · exact ih w hw
    · rw [if_neg c, hv] at hw
      rw [hv] at ih
      rcases List.mem_cons.1 hw with rfl | hw
      · intro hm
        rcases List.mem_cons.1 hm with h | h
        · exact c h.symm
        · exact ih v (by simp) h
      · exact ih w (by simp [hw])
theorem words_bytes : ∀ (p : List UInt8) (b : UInt8), b ≠ 32 → (b ∈ p ↔ ∃ w ∈ wordsOf p, b ∈ w)
  | [], b, hb => by simp [wordsOf]
  | a :: r, b, hb => by
    have ih := words_bytes r b hb
    obtain ⟨v, q, hv⟩ := wordsOf_ne r
    unfold wordsOf
    by_cases c : a = 32
    · rw [if_pos c]
      constructor
      · intro h
        rcases List.mem_cons.1 h with rfl | h
        · exact absurd c hb
        · obtain ⟨w, h1, h2⟩ := ih.1 h
          exact ⟨w, by simp [h1], h2⟩
      · rintro ⟨w, h1, h2⟩
        rcases List.mem_cons.1 h1 with rfl | h1
        · cases h2
        · exact List.mem_cons_of_mem _ (ih.2 ⟨w, h1, h2⟩)
    · rw [if_neg c, hv]
      rw [hv] at ih
      constructor
      · intro h
        rcases List.mem_cons.1 h with rfl | h
        · exact ⟨b :: v, by simp, by simp⟩
        · obtain ⟨w, h1, h2⟩ := ih.1 h
          rcases List.mem_cons.1 h1 with rfl | h1
          · exact ⟨a :: w, by simp, by simp [h2]⟩
          · exact ⟨w, by simp [h1], h2⟩
      · rintro ⟨w, h1, h2⟩
        rcases List.mem_cons.1 h1 with rfl | h1
        · rcases List.mem_cons.1 h2 with rfl | h2
          · simp
          · exact List.mem_cons_of_mem _ (ih.2 ⟨v, by simp, h2⟩)
        · exact List.mem_cons_of_mem _ (ih.2 ⟨w, by simp [h1], h2⟩)
theorem words_sum : ∀ p : List UInt8, ((wordsOf p).map fun w => w.length + 1).sum = p.length + 1
  | [] => rfl
  | b :: r => by
    have ih := words_sum r
    obtain ⟨v, q, hv⟩ := wordsOf_ne r
    unfold wordsOf
    by_cases c : b = 32
    · rw [if_pos c]
      simp only [List.map_cons, List.sum_cons, ih, List.length_cons, List.length_nil]
      omega
    · rw [if_neg c, hv]
      rw [hv] at ih
      simp only [List.map_cons, List.sum_cons, List.length_cons] at ih ⊢
      omega
theorem split_ev (p : List UInt8) (hp : p.length ≤ 1000000) : strings_Split.f (mk p) (⟨#[32]⟩ : ByteArray) = some ((wordsOf p).map mk) := by
  obtain ⟨w, q, hw⟩ := wordsOf_ne p
  have hj := joinSp_words p
  have hn := words_no32 p
  rw [hw] at hj hn ⊢
  obtain ⟨h1, h2⟩ := split_all (⟨#[32]⟩ : ByteArray) rfl w q hn
  rw [hj] at h1 h2
  unfold strings_Split.f
  rw [h1, h2, if_pos ⟨by rw [mk_size]; omega, by decide⟩]
def signsL : List UInt8 := [97, 98, 99, 100, 101, 102, 103, 104, 105, 106, 107, 108, 109, 110, 111, 112, 113, 114, 115, 116, 117, 118, 119, 120, 121, 122, 48, 49, 50, 51, 52, 53, 54, 55, 56, 57, 47, 63, 61, 43]
def codesL : List (List UInt8) := [[46, 45], [45, 46, 46, 46], [45, 46, 45, 46], [45, 46, 46], [46], [46, 46, 45, 46], [45, 45, 46], [46, 46, 46, 46], [46, 46], [46, 45, 45, 45], [45, 46, 45], [46, 45, 46, 46], [45, 45], [45, 46], [45, 45, 45], [46, 45, 45, 46], [45, 45, 46, 45], [46, 45, 46], [46, 46, 46], [45], [46, 46, 45], [46, 46, 46, 45], [46, 45, 45], [45, 46, 46, 45], [45, 46, 45, 45], [45, 45, 46, 46], [45, 45, 45, 45, 45], [46, 45, 45, 45, 45], [46, 46, 45, 45, 45], [46, 46, 46, 45, 45], [46, 46, 46, 46, 45], [46, 46, 46, 46, 46], [45, 46, 46, 46, 46], [45, 45, 46, 46, 46], [45, 45, 45, 46, 46], [45, 45, 45, 45, 46], [45, 46, 46, 45, 46], [46, 46, 45, 45, 46, 46], [45, 46, 46, 46, 45], [46, 45, 46, 45, 46]]
/-- A byte's place among the signs; 40: it is none. -/
def placeN (b : UInt8) : Nat := signsL.findIdx (· == b)
def isSign (b : UInt8) : Bool := Nat.blt (placeN b) 40
/-- The code of a byte; empty: it is no sign. -/
def codeL (b : UInt8) : List UInt8 := codesL.getD (placeN b) []
theorem code_facts : ∀ b : UInt8, (isSign b = true → codeL b ≠ []) ∧ (isSign b = false → codeL b = []) ∧ (codeL b).length ≤ 6 ∧ (∀ c ∈ codeL b, c.toNat < 128) ∧ isSign b = signsL.contains b ∧ (isSign b = true → b.toNat < 128 ∧ b ≠ 32) := all_bytes (by decide +kernel)
theorem codesL_len : codesL.length = 40 := rfl
theorem indexByte_find (c : UInt8) : ∀ p : List UInt8, c ∈ p → Lib.indexByte p c = (p.findIdx (· == c) : Nat)
  | [], h => by cases h
  | b :: r, h => by
    rw [Lib.indexByte, List.findIdx_cons]
    by_cases e : (b == c) = true
    · rw [if_pos e, e]; rfl
    · have e' : (b == c) = false := by simpa using e
      have hm : c ∈ r := by
        rcases List.mem_cons.1 h with h | h
        · exact absurd (by simp [h]) e
        · exact h
      have ih := indexByte_find c r hm
      rw [if_neg e, e', ih]
      have : (((List.findIdx (fun x => x == c) r : Nat) : Int) == -1) = false := by simp
      rw [this]
      simp
theorem sign_mem {b : UInt8} (h : isSign b = true) : b ∈ signsL := by
  have := (code_facts b).2.2.2.2.1
  rw [h] at this
  simpa using this.symm
theorem place_lt {b : UInt8} (h : isSign b = true) : placeN b < 40 := by
  unfold isSign at h
  simpa using h
/-! The document's table. -/
theorem splitCodes : strings_Split.f str_0 (⟨#[32]⟩ : ByteArray) = some (codesL.map mk) := by
  have e : str_0 = mk (joinSp codesL) := by
    apply ByteArray.ext
    rfl
  obtain ⟨h1, h2⟩ := split_all (⟨#[32]⟩ : ByteArray) rfl [46, 45] codesL.tail (by decide)
  have hl : ([46, 45] : List UInt8) :: codesL.tail = codesL := rfl
  rw [hl] at h1 h2
  unfold strings_Split.f
  rw [e, h1, h2, if_pos ⟨by rw [mk_size]; decide, by decide⟩]
theorem CodesOf_ev : ∃ R : List (ByteArray × ByteArray), Ev (fun k => pileref1_CodesOf.f k) R ∧ R.length = 40 ∧ ∀ (j : Nat) (h : j < R.length), R[j] = (mk [signsL.getD j 0], mk (codesL.getD j [])) := by
  have h1 : (str_1.size : Int) = 40 := rfl
  have hx : ∀ j : Fin 40, str_1.extract j.val (j.val + 1) = mk [signsL.getD j.val 0] := by decide +kernel
  obtain ⟨v, hv, he⟩ := loop (codesL.map mk) (fun k i (o : List (ByteArray × ByteArray)) => pileref1_CodesOf.l0 k (codesL.map mk) ((codesL.map mk).length : Int) i o)
    (fun i o => o.length = i ∧ ∀ (j : Nat) (h : j < o.length), o[j] = (mk [signsL.getD j 0], mk (codesL.getD j []))) (fun R => R.length = 40 ∧ ∀ (j : Nat) (h : j < R.length), R[j] = (mk [signsL.getD j 0], mk (codesL.getD j [])))
    (fun i o hi ⟨i1, i2⟩ => .inl ⟨o ++ [(mk [signsL.getD i 0], mk (codesL.getD i []))], ⟨by simp; omega, fun j h => by
      by_cases c : j < o.length
      · rw [List.getElem_append_left c]; exact i2 j c
      · have : j = o.length := by simp at h; omega
        subst this
        simp [i1]⟩, fun v hv => Ev.step (fun k => by
      have hlen : (codesL.map mk).length = 40 := rfl
      have hr : rdE eS (codesL.map mk) (i : Int) = mk (codesL.getD i []) := by rw [rdE_get eS _ i hi]; simp [List.getD, show i < codesL.length by rw [codesL_len]; omega]
      have hx2 := hx ⟨i, by omega⟩
      simp only at hx2
      simp only [pileref1_CodesOf.l0, hr, wrap_succ (show i ≤ 1000000000000000 by omega), h1, Int.toNat_natCast, hx2]
      rw [if_pos (by omega), if_pos (by omega), if_pos (by omega), if_pos (by omega), if_pos (by omega), if_pos (by omega), if_pos (by omega), if_pos (by simp; omega)]) hv⟩)
    (fun o ⟨i1, i2⟩ => ⟨o, ⟨i1, i2⟩, Ev.step (f := fun _ => some _) (fun k => by simp only [pileref1_CodesOf.l0]; rw [if_neg (by omega)]) (Ev.now _)⟩) 0 [] (by simp) ⟨rfl, fun j h => by simp at h⟩
  refine ⟨v, ?_, hv⟩
  unfold pileref1_CodesOf.f
  simp only [splitCodes, Option.bind_some]
  exact he
theorem codeOf_ev (b : UInt8) (h : isSign b = true) : Ev (fun k => pileref1_codeOf.f k (b.toNat : Int)) (mk (codeL b)) := by
  obtain ⟨R, hR, hl, hp⟩ := CodesOf_ev
  have hi := place_lt h
  unfold pileref1_codeOf.f
  refine Ev.bind hR ?_
  have hs : strings_IndexByte.f str_1 (b.toNat : Int) = some (placeN b : Int) := by
    unfold strings_IndexByte.f
    have e : str_1.data.toList = signsL := rfl
    have e2 : ((b.toNat : Int)).toNat.toUInt8 = b := by simp
    rw [e, e2, indexByte_find b signsL (sign_mem h)]
    rfl
  simp only [hs, Option.bind_some]
  refine Ev.pos (by omega) (Ev.pos (by omega) ?_)
  rw [rdE_get e_SS R (placeN b) (by omega), hp (placeN b) (by omega)]
  exact Ev.now _
/-! The program's table. -/
end Go.EV.Pure
namespace Go.EV.Pure
open Go Go.EV Go.RowKit
set_option linter.unusedSimpArgs false
set_option maxRecDepth 100000
/-! What can be said: both faults are the same. -/
def badW (p : List UInt8) : Bool := (wordsOf p).any List.isEmpty
def allS (p : List UInt8) : Bool := (wordsOf p).all fun w => w.all isSign
def saidF (p : List UInt8) : Int := if p.length > 500 then 2 else if badW p = true then 3 else if allS p = true then 0 else 3
theorem all_signs (p : List UInt8) : allS p = p.all fun b => isSign b || b == 32 := by
  rw [Bool.eq_iff_iff, allS, List.all_eq_true, List.all_eq_true]
  constructor
  · intro h b hb
    by_cases c : b = 32
    · simp [c]
    · obtain ⟨w, h1, h2⟩ := (words_bytes p b c).1 hb
      have := h w h1
      rw [List.all_eq_true] at this
      rw [this b h2]; rfl
  · intro h w hw
    rw [List.all_eq_true]
    intro b hb
    have h32 : b ≠ 32 := fun e => words_no32 p w hw (e ▸ hb)
    have := h b ((words_bytes p b h32).2 ⟨w, hw, hb⟩)
    simpa [h32] using this
end Go.EV.Pure
namespace Go.EV.Pure
open Go Go.EV Go.RowKit
set_option linter.unusedSimpArgs false
set_option maxRecDepth 100000
/-! Marks and gaps: what is keyed, in both ways. -/
def mrk (u : Int) (c : UInt8) : Int := if c = 45 then 3 * u else u
def tailE (u : Int) (l : List UInt8) : List Int := l.flatMap fun c => [u, mrk u c]
def elE (u : Int) : List UInt8 → List Int
  | [] => []
  | a :: r => mrk u a :: tailE u r
def tailW (u s : Int) (l : List UInt8) : List Int := l.flatMap fun b => 3 * s :: elE u (codeL b)
def elW (u s : Int) : List UInt8 → List Int
  | [] => []
  | a :: r => elE u (codeL a) ++ tailW u s r
def tailT (u s : Int) (l : List (List UInt8)) : List Int := l.flatMap fun w => 7 * s :: elW u s w
def elT (u s : Int) : List (List UInt8) → List Int
  | [] => []
  | a :: r => elW u s a ++ tailT u s r
theorem elE_len (u : Int) (c : List UInt8) : (elE u c).length ≤ 2 * c.length := by
  cases c with
  | nil => simp [elE]
  | cons a r =>
    have : (tailE u r).length = 2 * r.length := by
      unfold tailE
      induction r with
      | nil => rfl
      | cons b r ih => simp only [List.flatMap_cons, List.length_append, ih, List.length_cons, List.length_nil]; omega
    simp only [elE, List.length_cons, this]
    omega
theorem elC_len (u : Int) (b : UInt8) : (elE u (codeL b)).length ≤ 12 := by
  have := elE_len u (codeL b)
  have := (code_facts b).2.2.1
  omega
theorem elW_len (u s : Int) (w : List UInt8) : (elW u s w).length ≤ 13 * w.length := by
  cases w with
  | nil => simp [elW]
  | cons a r =>
    have : (tailW u s r).length ≤ 13 * r.length := by
      unfold tailW
      induction r with
      | nil => exact Nat.le_refl _
      | cons b r ih => have := elC_len u b; simp only [List.flatMap_cons, List.length_append, List.length_cons]; omega
    have := elC_len u a
    simp only [elW, List.length_append, List.length_cons]
    omega
theorem elT_len (u s : Int) (W : List (List UInt8)) : (elT u s W).length ≤ 13 * (W.map fun w => w.length + 1).sum := by
  cases W with
  | nil => simp [elT]
  | cons a r =>
    have : (tailT u s r).length ≤ 13 * (r.map fun w => w.length + 1).sum := by
      unfold tailT
      induction r with
      | nil => exact Nat.le_refl _
      | cons b r ih => have := elW_len u s b; simp only [List.flatMap_cons, List.length_append, List.length_cons, List.map_cons, List.sum_cons]; omega
    have := elW_len u s a
    simp only [elT, List.length_append, List.map_cons, List.sum_cons]
    omega
end Go.EV.Pure
namespace Go.EV.Pure
open Go Go.EV Go.RowKit
set_option linter.unusedSimpArgs false
set_option maxRecDepth 100000
/-! The document's way to key. -/
def KO (u s : Int) : Int → List Int → List UInt8 → List Int
  | _, o, [] => o
  | g, o, b :: r => if b = 32 then KO u s (7 * s) o r else KO u s (3 * s) (if o = [] then elE u (codeL b) else o ++ g :: elE u (codeL b)) r
theorem elE_ne {u : Int} {c : List UInt8} (h : c ≠ []) : elE u c ≠ [] := by
  cases c with
  | nil => exact absurd rfl h
  | cons a r => simp [elE]
theorem KO_tail (u s : Int) : ∀ (w rest : List UInt8) (o : List Int), o ≠ [] → (∀ b ∈ w, isSign b = true) → KO u s (3 * s) o (w ++ rest) = KO u s (3 * s) (o ++ tailW u s w) rest
  | [], rest, o, _, _ => by simp [tailW]
  | b :: w, rest, o, ho, h => by
    have hb := (code_facts b).2.2.2.2.2 (h b (by simp))
    rw [List.cons_append, KO, if_neg hb.2, if_neg ho, KO_tail u s w rest _ (by simp) (fun c hc => h c (by simp [hc]))]
    simp [tailW]
theorem KO_word (u s : Int) (w rest : List UInt8) (hw : w ≠ []) (g : Int) (o : List Int) (h : ∀ b ∈ w, isSign b = true) : KO u s g o (w ++ rest) = KO u s (3 * s) (if o = [] then elW u s w else o ++ g :: elW u s w) rest ∧ (if o = [] then elW u s w else o ++ g :: elW u s w) ≠ [] := by
  cases w with
  | nil => exact absurd rfl hw
  | cons b w =>
    have hb := (code_facts b).2.2.2.2.2 (h b (by simp))
    have hc := (code_facts b).1 (h b (by simp))
    have he := elE_ne (u := u) hc
    constructor
    · rw [List.cons_append, KO, if_neg hb.2]
      by_cases c : o = []
      · rw [if_pos c, if_pos c, KO_tail u s w rest _ he (fun c hc => h c (by simp [hc]))]; rfl
      · rw [if_neg c, if_neg c, KO_tail u s w rest _ (by simp) (fun c hc => h c (by simp [hc]))]; simp [elW]
    · by_cases c : o = []
      · rw [if_pos c]; simp [elW, he]
      · rw [if_neg c]; simp
theorem KO_text (u s : Int) : ∀ (q : List (List UInt8)) (w : List UInt8) (g : Int) (o : List Int), (∀ x ∈ w :: q, x ≠ [] ∧ ∀ b ∈ x, isSign b = true) →
    KO u s g o (joinSp (w :: q)) = if o = [] then elT u s (w :: q) else o ++ g :: elT u s (w :: q)
  | [], w, g, o, h => by
    obtain ⟨h1, h2⟩ := h w (by simp)
    obtain ⟨e, _⟩ := KO_word u s w [] h1 g o h2
    rw [List.append_nil] at e
    show KO u s g o w = _
    rw [e]
    simp [KO, elT, tailT]
  | v :: q, w, g, o, h => by
    obtain ⟨h1, h2⟩ := h w (by simp)
    obtain ⟨e, hne⟩ := KO_word u s w (32 :: joinSp (v :: q)) h1 g o h2
    show KO u s g o (w ++ 32 :: joinSp (v :: q)) = _
    rw [e, KO, if_pos rfl, KO_text u s q v (7 * s) _ (fun x hx => h x (by simp [List.mem_cons.1 hx])), if_neg hne]
    by_cases c : o = []
    · rw [if_pos c, if_pos c]; simp [elT, tailT]
    · rw [if_neg c, if_neg c]; simp [elT, tailT]
theorem code_bytes : ∀ b : UInt8, ∀ c ∈ codeL b, c = 45 ∨ c = 46 := all_bytes (by decide +kernel)
theorem keyEl (u s : Int) (S : ByteArray) (i : Nat) (c : List UInt8) (hcl : c.length ≤ 6) (hc : ∀ x ∈ c, x = 45 ∨ x = 46) (hu : 0 ≤ u ∧ u ≤ 2000) (hs : 0 ≤ s ∧ s ≤ 2000) (hi : i ≤ 1000) (F : List Int) (hF : F.length ≤ 1000000) (v : List Int)
    (hv : Ev (fun k => pileref1_KeyedOf.l0 k S u s (3 * s) ((i + 1 : Nat) : Int) F) v) (d : Nat) :
    ∀ (j : Nat) (g : Int) (o : List Int), j + d = c.length → (1 ≤ j → o ≠ [] ∧ g = u) → (if j = 0 then (if c = [] then o else if o = [] then elE u c else o ++ g :: elE u c) else o ++ tailE u (c.drop j)) = F → Ev (fun k => pileref1_KeyedOf.l1 k S u s (i : Int) g o (mk c) j) v := by
  have hsz := mk_size c
  induction d with
  | zero =>
    intro j g o hj h1 h2
    refine Ev.succ ?_
    simp only [pileref1_KeyedOf.l1, hsz, wrap_id (e := 3 * s) (by omega) (by omega), wrap_succ (show i ≤ 1000000000000000 by omega)]
    have : o = F := by
      by_cases c0 : j = 0
      · rw [if_pos c0, if_pos (List.eq_nil_of_length_eq_zero (by omega))] at h2; exact h2
      · rw [if_neg c0, List.drop_eq_nil_of_le (by omega)] at h2; simpa [tailE] using h2
    rw [this]
    exact Ev.neg (by omega) hv
  | succ d ih =>
    intro j g o hj h1 h2
    have hjl : j < c.length := by omega
    have hcj := hc _ (List.getElem_mem hjl)
    have ha : c[j].toNat < 128 := by
      rcases hcj with h | h
      · rw [h]; decide
      · rw [h]; decide
    have hdec := dec_at c j hjl ha
    have hdrop : c.drop j = c[j] :: c.drop (j + 1) := List.drop_eq_getElem_cons hjl
    have hcne : c ≠ [] := fun h => by rw [h] at hjl; cases hjl
    have j13 : ∀ o2, o2 ++ mrk u c[j] :: tailE u (c.drop (j + 1)) = F → Ev (fun k => pileref1_KeyedOf.j13 k S u s (i : Int) (mk c) j o2) v := by
      intro o2 h3
      have hl : o2.length + 1 ≤ 1000000 := by rw [← h3] at hF; simp at hF; omega
      have := ih (j + 1) u (o2 ++ [mrk u c[j]]) (by omega) (fun _ => ⟨by simp, rfl⟩) (by rw [if_neg (by omega)]; simpa using h3)
      have j16 : Ev (fun k => pileref1_KeyedOf.j16 k S u s (i : Int) (mk c) j (o2 ++ [mrk u c[j]])) v := Ev.step (fun k => by simp only [pileref1_KeyedOf.j16, hdec]) this
      refine Ev.succ ?_
      simp only [pileref1_KeyedOf.j13, hdec, wrap_id (e := 3 * u) (by omega) (by omega)]
      by_cases c46 : ((c[j].toNat : Nat) : Int) = 46
      · have hm : mrk u c[j] = u := by
          rw [mrk, if_neg]
          intro h
          rw [h] at c46
          exact absurd c46 (by decide)
        rw [hm] at j16
        exact Ev.pos c46 (Ev.pos (by omega) j16)
      · have hm : mrk u c[j] = 3 * u := by
          rw [mrk, if_pos]
          rcases hcj with h | h
          · exact h
          · rw [h] at c46; exact absurd rfl c46
        rw [hm] at j16
        exact Ev.neg c46 (Ev.pos (by omega) j16)
    refine Ev.succ ?_
    simp only [pileref1_KeyedOf.l1, hsz]
    refine Ev.pos hjl ?_
    by_cases c0 : j = 0
    · subst c0
      rw [if_pos rfl, if_neg hcne] at h2
      have hel : elE u c = mrk u c[0] :: tailE u (c.drop 1) := by
        cases c with
        | nil => exact absurd rfl hcne
        | cons a r => rfl
      rw [hel] at h2
      by_cases co : o = []
      · rw [if_pos co] at h2
        subst co
        exact Ev.neg (by simp) (j13 [] (by simpa using h2))
      · rw [if_neg co] at h2
        have hl : o.length + 1 ≤ 1000000 := by rw [← h2] at hF; simp at hF; omega
        have hpos : 0 < o.length := List.length_pos_iff.2 co
        exact Ev.pos (by omega) (Ev.pos (by omega) (j13 (o ++ [g]) (by simpa using h2)))
    · obtain ⟨ho, rfl⟩ := h1 (by omega)
      have ht : tailE g (c[j] :: c.drop (j + 1)) = g :: mrk g c[j] :: tailE g (c.drop (j + 1)) := rfl
      rw [if_neg c0, hdrop, ht] at h2
      have hl : o.length + 1 ≤ 1000000 := by rw [← h2] at hF; simp at hF; omega
      have hpos : 0 < o.length := List.length_pos_iff.2 ho
      exact Ev.pos (by omega) (Ev.pos (by omega) (j13 (o ++ [g]) (by rw [List.append_assoc]; exact h2)))
theorem keyOf_run (u s : Int) (p : List UInt8) (hp : p.length ≤ 500) (hall : ∀ b ∈ p, isSign b = true ∨ b = 32) (hu : 0 ≤ u ∧ u ≤ 2000) (hs : 0 ≤ s ∧ s ≤ 2000) (d : Nat) :
    ∀ (j : Nat) (g : Int) (o : List Int), j + d = p.length → o.length ≤ 13 * j → Ev (fun k => pileref1_KeyedOf.l0 k (mk p) u s g (j : Int) o) (KO u s g o (p.drop j)) := by
  have hsz := mk_size p
  induction d with
  | zero =>
    intro j g o hj _
    rw [List.drop_eq_nil_of_le (by omega)]
    refine Ev.step (f := fun _ => some _) (fun k => ?_) (Ev.now _)
    simp only [pileref1_KeyedOf.l0, hsz]
    rw [if_neg (by omega)]
    rfl
  | succ d ih =>
    intro j g o hj ho
    have hjl : j < p.length := by omega
    have hb := mk_bt p j hjl
    rw [List.drop_eq_getElem_cons hjl, KO]
    refine Ev.succ ?_
    simp only [pileref1_KeyedOf.l0, hsz, hb, wrap_id (e := 7 * s) (by omega) (by omega), wrap_succ (show j ≤ 1000000000000000 by omega)]
    refine Ev.pos (by omega) (Ev.pos (by omega) (Ev.pos (by omega) ?_))
    by_cases c : p[j] = 32
    · rw [if_pos c]
      exact Ev.pos (by rw [c]; rfl) (ih (j + 1) _ o (by omega) (by omega))
    · rw [if_neg c]
      have hsg : isSign p[j] = true := (hall _ (List.getElem_mem hjl)).resolve_right c
      have hel := elC_len u p[j]
      refine Ev.neg (fun h => c ?_) (Ev.pos (by omega) (Ev.pos (by omega) (Ev.bind (codeOf_ev p[j] hsg) ?_)))
      · apply UInt8.toNat_inj.1
        have : (32 : UInt8).toNat = 32 := rfl
        omega
      · have hlen : (if o = [] then elE u (codeL p[j]) else o ++ g :: elE u (codeL p[j])).length ≤ 13 * (j + 1) := by
          split
          · omega
          · simp only [List.length_append, List.length_cons]; omega
        have hcn := (code_facts p[j]).1 hsg
        refine keyEl u s (mk p) j (codeL p[j]) (code_facts p[j]).2.2.1 (code_bytes p[j]) hu hs (by omega) _ (by omega) _ (ih (j + 1) (3 * s) _ (by omega) hlen) (codeL p[j]).length 0 g o (by omega) (fun h => absurd h (by omega)) ?_
        rw [if_pos rfl, if_neg hcn]
theorem said_all {p : List UInt8} (h : saidF p = 0) : p.length ≤ 500 ∧ (∀ b ∈ p, isSign b = true ∨ b = 32) ∧ ∀ x ∈ wordsOf p, x ≠ [] ∧ ∀ b ∈ x, isSign b = true := by
  unfold saidF at h
  split at h
  · cases h
  · rename_i c0
    split at h
    · cases h
    · rename_i c1
      split at h
      · rename_i c2
        have hal := c2
        rw [all_signs, List.all_eq_true] at c2
        refine ⟨by omega, fun b hb => by simpa using c2 b hb, fun x hx => ⟨fun e => c1 ?_, ?_⟩⟩
        · unfold badW
          rw [List.any_eq_true]
          exact ⟨x, hx, by rw [e]; rfl⟩
        · unfold allS at hal
          rw [List.all_eq_true] at hal
          have := hal x hx
          rw [List.all_eq_true] at this
          exact this
      · cases h
theorem KeyedOf_full (p : List UInt8) (h : saidF p = 0) (u s : Int) (hu : 0 ≤ u ∧ u ≤ 2000) (hs : 0 ≤ s ∧ s ≤ 2000) : Ev (fun k => pileref1_KeyedOf.f k (mk p) u s) (elT u s (wordsOf p)) := by
  obtain ⟨h1, h2, h3⟩ := said_all h
  have e := keyOf_run u s p h1 h2 hu hs p.length 0 0 [] (by omega) (by simp)
  rw [List.drop_zero] at e
  obtain ⟨w, q, hw⟩ := wordsOf_ne p
  rw [hw] at h3
  have hk := KO_text u s q w 0 [] h3
  rw [if_pos rfl, ← hw, joinSp_words] at hk
  rw [hk] at e
  exact e
end Go.EV.Pure
namespace Go.EV.Pure
open Go Go.EV Go.RowKit
set_option linter.unusedSimpArgs false
set_option maxRecDepth 100000
theorem joinTail_mem (sep : List UInt8) (b : UInt8) : ∀ (r : List (List UInt8)), b ∈ Lib.joinTail sep r → b ∈ sep ∨ ∃ w ∈ r, b ∈ w
  | [], h => by simp [Lib.joinTail] at h
  | w :: r, h => by
    have e : Lib.joinTail sep (w :: r) = sep ++ w ++ Lib.joinTail sep r := by simp [Lib.joinTail]
    rw [e] at h
    rcases List.mem_append.1 h with h | h
    · rcases List.mem_append.1 h with h | h
      · exact .inl h
      · exact .inr ⟨w, by simp, h⟩
    · rcases joinTail_mem sep b r h with h | ⟨x, hx, hb⟩
      · exact .inl h
      · exact .inr ⟨x, by simp [hx], hb⟩
theorem join_mem (sep : List UInt8) (b : UInt8) (O : List (List UInt8)) (h : b ∈ Lib.join O sep) : b ∈ sep ∨ ∃ w ∈ O, b ∈ w := by
  cases O with
  | nil => rw [Lib.join_nil] at h; cases h
  | cons a r =>
    rw [Lib.join_cons] at h
    rcases List.mem_append.1 h with h | h
    · exact .inr ⟨a, by simp, h⟩
    · rcases joinTail_mem sep b r h with h | ⟨x, hx, hb⟩
      · exact .inl h
      · exact .inr ⟨x, by simp [hx], hb⟩
theorem join_snoc (sep : List UInt8) (O : List (List UInt8)) (s : List UInt8) : Lib.join (O ++ [s]) sep = if O = [] then s else Lib.join O sep ++ sep ++ s := by
  cases O with
  | nil => rw [if_pos rfl, List.nil_append, Lib.join_one]
  | cons a r =>
    rw [if_neg (by simp), List.cons_append, Lib.join_cons, Lib.join_cons]
    have : Lib.joinTail sep (r ++ [s]) = Lib.joinTail sep r ++ sep ++ s := by simp [Lib.joinTail]
    rw [this]
    simp
end Go.EV.Pure
namespace Go.EV.Pure
open Go Go.EV Go.RowKit
set_option linter.unusedSimpArgs false
set_option maxRecDepth 100000
/-! The table of signs, codes written and read, both ways. -/
def sgL : List (ByteArray × ByteArray) := (signsL.zip codesL).map fun x => (mk [x.1], mk x.2)
theorem sgL_at (j : Nat) (h : j < 40) : sgL[j]'(by rw [show sgL.length = 40 from rfl]; exact h) = (mk [signsL.getD j 0], mk (codesL.getD j [])) := by
  have h1 : j < signsL.length := h
  have h2 : j < codesL.length := h
  simp [sgL, List.getD, List.getElem?_eq_getElem h1, List.getElem?_eq_getElem h2]
theorem CodesOf_sg : Ev (fun k => pileref1_CodesOf.f k) sgL := by
  obtain ⟨R, hR, hl, hp⟩ := CodesOf_ev
  have : R = sgL := by
    apply List.ext_getElem
    · rw [hl]; rfl
    · intro j h1 h2
      rw [hp j h1, sgL_at j (by omega)]
  rw [← this]
  exact hR
def cw (w : List UInt8) : List UInt8 := Lib.join (w.map codeL) [32]
end Go.EV.Pure
namespace Go.EV.Pure
open Go Go.EV Go.RowKit
set_option linter.unusedSimpArgs false
set_option maxRecDepth 100000
/-! Codes read. -/
def signF (a : ByteArray) : ByteArray := match sgL.find? (fun x => decide (x.2 = a)) with
  | some x => x.1
  | none => mk [42]
theorem signF_size (a : ByteArray) : (signF a).size = 1 := by
  unfold signF
  split
  · rename_i x hx
    have hm := List.mem_of_find?_eq_some hx
    have : ∀ x ∈ sgL, x.1.size = 1 := by decide +kernel
    exact this x hm
  · rfl
def signL (c : List UInt8) : List UInt8 := (signF (mk c)).data.toList
theorem signL_mk (c : List UInt8) : signF (mk c) = mk (signL c) := mk_of _
theorem signL_len (c : List UInt8) : (signL c).length = 1 := by
  have := signF_size (mk c)
  unfold signL
  rw [Array.length_toList]
  exact this
theorem find_hit {α : Type} (p : α → Bool) (L : List α) (i : Nat) (hi : i < L.length) (h : (L.take i).find? p = none) (hp : p L[i] = true) : L.find? p = some L[i] := by
  have e : L.find? p = (L.take i ++ L.drop i).find? p := by rw [List.take_append_drop]
  rw [e, List.find?_append, h, Option.none_or, List.drop_eq_getElem_cons hi, List.find?_cons, hp]
theorem refSign (a : ByteArray) : Ev (fun k => pileref1_signOf.f k a) (signF a) := by
  obtain ⟨v, hv, he⟩ := loop sgL (fun k i (_ : Unit) => pileref1_signOf.l0 k a sgL (sgL.length : Int) i)
    (fun i _ => (sgL.take i).find? (fun x => decide (x.2 = a)) = none) (fun v => v = signF a)
    (fun i s hi hI => by
      have hr : rdE e_SS sgL (i : Int) = sgL[i] := rdE_get e_SS sgL i hi
      have hl : sgL.length = 40 := rfl
      by_cases c : sgL[i].2 = a
      · refine .inr ⟨sgL[i].1, ?_, Ev.succ ?_⟩
        · have hf := find_hit (fun x : ByteArray × ByteArray => decide (x.2 = a)) sgL i hi hI (decide_eq_true c)
          unfold signF
          rw [hf]
        · simp only [pileref1_signOf.l0, hr]
          exact Ev.pos (by omega) (Ev.pos (by omega) (Ev.pos (by omega) (Ev.pos c (Ev.now _))))
      · refine .inl ⟨(), ?_, fun v hv => Ev.succ ?_⟩
        · rw [List.take_succ_eq_append_getElem hi, List.find?_append, hI, Option.none_or, List.find?_cons, decide_eq_false c]
          rfl
        · simp only [pileref1_signOf.l0, hr, wrap_succ (show i ≤ 1000000000000000 by omega)]
          exact Ev.pos (by omega) (Ev.pos (by omega) (Ev.pos (by omega) (Ev.neg c hv))))
    (fun s hI => ⟨mk [42], by
      rw [List.take_length] at hI
      unfold signF
      rw [hI], Ev.step (f := fun _ => some _) (fun k => by simp only [pileref1_signOf.l0]; rw [if_neg (by omega)]; rfl) (Ev.now _)⟩) 0 () (by simp) (by simp)
  rw [hv] at he
  exact Ev.bind CodesOf_sg he
def byC : List (ByteArray × ByteArray) := sgL.map fun x => (x.2, x.1)
theorem byCodes_ev : Ev (fun k => key_byCodes.f k) byC := Ev.from 100 fun k => (by kernel_rfl : key_byCodes.f (k + 100) = some byC)
theorem mget_find (a d : ByteArray) : ∀ L : List (ByteArray × ByteArray), (a ∈ (L.map fun x => (x.2, x.1)).map Prod.fst ↔ (L.find? (fun x => decide (x.2 = a))).isSome = true) ∧
    ∀ x, L.find? (fun x => decide (x.2 = a)) = some x → mget d (L.map fun x => (x.2, x.1)) a = x.1
  | [] => by simp
  | y :: r => by
    obtain ⟨i1, i2⟩ := mget_find a d r
    by_cases c : y.2 = a
    · have hf : (y :: r).find? (fun x => decide (x.2 = a)) = some y := by rw [List.find?_cons, decide_eq_true c]
      rw [hf]
      refine ⟨by simp [c], fun x hx => ?_⟩
      cases hx
      simp [mget, c]
    · have hf : (y :: r).find? (fun x => decide (x.2 = a)) = r.find? (fun x => decide (x.2 = a)) := by rw [List.find?_cons, decide_eq_false c]
      rw [hf, ← i1]
      refine ⟨?_, fun x hx => ?_⟩
      · simp only [List.map_cons, List.mem_cons]
        constructor
        · rintro (h | h)
          · exact absurd h.symm c
          · exact h
        · exact fun h => .inr h
      · rw [← i2 x hx]
        unfold mget
        have hb : (y.2 == a) = false := by simpa using c
        simp only [List.map_cons, List.idxOf_cons, hb, cond_false, List.getD_cons_succ]
theorem keySign (a : ByteArray) : key_signOf.f byC a = some (signF a) := by
  obtain ⟨h1, h2⟩ := mget_find a ByteArray.empty sgL
  unfold key_signOf.f signF
  by_cases c : a ∈ List.map Prod.fst byC
  · rw [if_pos c]
    have hs := h1.1 c
    cases hf : sgL.find? (fun x => decide (x.2 = a)) with
    | none => rw [hf] at hs; cases hs
    | some x => show some _ = some x.1; rw [← h2 x hf]; rfl
  · rw [if_neg c]
    cases hf : sgL.find? (fun x => decide (x.2 = a)) with
    | none => rfl
    | some x => exact absurd (h1.2 (by rw [hf]; rfl)) c
def catL (Y : List (List UInt8)) : List UInt8 := Y.flatMap signL
theorem catL_cons (c : List UInt8) (Y : List (List UInt8)) : catL (c :: Y) = signL c ++ catL Y := rfl
end Go.EV.Pure
namespace Go.EV.Pure
open Go Go.EV Go.RowKit
set_option linter.unusedSimpArgs false
set_option linter.unusedVariables false
set_option maxRecDepth 100000
/-! Marks and gaps: how far they are from a unit, and what they are read as. -/
def dst (a b : Int) : Int := mx (a - b) (b - a)
def nearF (a u : Int) (m : Bool) : Int × Int :=
  if m = true then (if dst a (3 * u) < dst a u then (3, dst a (3 * u)) else (1, dst a u))
  else if dst a (7 * u) < (if dst a (3 * u) < dst a u then dst a (3 * u) else dst a u) then (7, dst a (7 * u)) else (if dst a (3 * u) < dst a u then (3, dst a (3 * u)) else (1, dst a u))
theorem dst_bd {a b N : Int} (ha : 0 ≤ a ∧ a ≤ N) (hb : 0 ≤ b ∧ b ≤ N) : 0 ≤ dst a b ∧ dst a b ≤ N := by
  unfold dst
  rw [mx_eq]
  split <;> omega
theorem isMark_ev (i : Nat) : key_isMark.f (i : Int) = some (decide (i % 2 = 0)) := by
  unfold key_isMark.f
  rw [tmod_pos (by omega)]
  have e : ((i : Int) % 2 = 0) ↔ (i % 2 = 0) := by omega
  simp only [e]
theorem near_step (a u : Int) (L : List Int) (i : Nat) (n x6 x7 : Int) (ha : 0 ≤ a ∧ a ≤ 1000000) (hu : 0 ≤ u ∧ u ≤ 100000) (hi : i < L.length) (hL : L.length ≤ 100) (hn : L[i] = n) (hn0 : 1 ≤ n ∧ n ≤ 7) (v : Int × Int)
    (h1 : x7 < 0 ∨ dst a (n * u) < x7 → Ev (fun k => key_nearest.l0 k a u L n (dst a (n * u)) ((i + 1 : Nat) : Int)) v)
    (h2 : ¬ (x7 < 0 ∨ dst a (n * u) < x7) → Ev (fun k => key_nearest.l0 k a u L x6 x7 ((i + 1 : Nat) : Int)) v) : Ev (fun k => key_nearest.l0 k a u L x6 x7 (i : Int)) v := by
  have hr := rd_get L i hi
  have hnu : 0 ≤ n * u ∧ n * u ≤ 700000 := by
    obtain ⟨q0, q1⟩ := hn0
    have : n = 1 ∨ n = 2 ∨ n = 3 ∨ n = 4 ∨ n = 5 ∨ n = 6 ∨ n = 7 := by omega
    rcases this with rfl | rfl | rfl | rfl | rfl | rfl | rfl <;> omega
  have hd : mx (wrap64 (a - wrap64 (n * u))) (wrap64 (wrap64 (n * u) - a)) = dst a (n * u) := by
    rw [wrap_id (e := n * u) (by omega) (by omega), wrap_id (e := a - n * u) (by omega) (by omega), wrap_id (e := n * u - a) (by omega) (by omega)]
    rfl
  have hj : ∀ y z : Int, Ev (fun k => key_nearest.l0 k a u L y z ((i + 1 : Nat) : Int)) v → Ev (fun k => key_nearest.j11 k a u L (i : Int) y z) v := fun y z h => Ev.step (fun k => by simp only [key_nearest.j11, wrap_succ (show i ≤ 1000000000000000 by omega)]) h
  refine Ev.succ ?_
  simp only [key_nearest.l0, hr, hn, hd]
  refine Ev.pos (by omega) (Ev.pos (by omega) (Ev.pos (by omega) ?_))
  by_cases c : x7 < 0
  · exact Ev.pos c (hj _ _ (h1 (.inl c)))
  · refine Ev.neg c ?_
    by_cases c2 : dst a (n * u) < x7
    · exact Ev.pos c2 (hj _ _ (h1 (.inr c2)))
    · exact Ev.neg c2 (hj _ _ (h2 (by omega)))
theorem near_end (a u : Int) (L : List Int) (x6 x7 : Int) (i : Nat) (hi : i = L.length) : Ev (fun k => key_nearest.l0 k a u L x6 x7 (i : Int)) (x6, x7) := by
  refine Ev.succ ?_
  simp only [key_nearest.l0]
  exact Ev.neg (by omega) (Ev.now _)
theorem nearest_ev (a u : Int) (m : Bool) (ha : 0 ≤ a ∧ a ≤ 1000000) (hu : 0 ≤ u ∧ u ≤ 100000) : Ev (fun k => key_nearest.f k a u m) (nearF a u m) := by
  have b1 := (dst_bd (N := 1000000) ha (b := 1 * u) (by omega)).1
  have b3 := (dst_bd (N := 1000000) ha (b := 3 * u) (by omega)).1
  have e1 : (1 : Int) * u = u := by omega
  unfold key_nearest.f
  cases m with
  | true =>
    refine Ev.pos rfl (Ev.pos (by decide) (Ev.succ ?_))
    simp only [key_nearest.j4]
    have hL : ([1, 3, 7] : List Int).take 2 = [1, 3] := rfl
    rw [hL]
    refine near_step a u [1, 3] 0 1 0 (-1) ha hu (by decide) (by decide) rfl (by omega) _ (fun _ => ?_) (fun h => absurd (.inl (by omega)) h)
    refine near_step a u [1, 3] 1 3 1 (dst a (1 * u)) ha hu (by decide) (by decide) rfl (by omega) _ (fun h => ?_) (fun h => ?_)
    · have e : nearF a u true = (3, dst a (3 * u)) := by unfold nearF; rw [e1] at h; rw [if_pos rfl, if_pos (by rw [e1] at b1; omega)]
      rw [e]
      exact near_end a u [1, 3] _ _ 2 rfl
    · have e : nearF a u true = (1, dst a (1 * u)) := by unfold nearF; rw [e1] at h ⊢; rw [if_pos rfl, if_neg (by omega)]
      rw [e]
      exact near_end a u [1, 3] _ _ 2 rfl
  | false =>
    refine Ev.neg Bool.false_ne_true (Ev.succ ?_)
    simp only [key_nearest.j4]
    refine near_step a u [1, 3, 7] 0 1 0 (-1) ha hu (by decide) (by decide) rfl (by omega) _ (fun _ => ?_) (fun h => absurd (.inl (by omega)) h)
    refine near_step a u [1, 3, 7] 1 3 1 (dst a (1 * u)) ha hu (by decide) (by decide) rfl (by omega) _ (fun h => ?_) (fun h => ?_)
    · rw [e1] at h b1
      have h' : dst a (3 * u) < dst a u := by omega
      refine near_step a u [1, 3, 7] 2 7 3 (dst a (3 * u)) ha hu (by decide) (by decide) rfl (by omega) _ (fun h2 => ?_) (fun h2 => ?_)
      · have e : nearF a u false = (7, dst a (7 * u)) := by unfold nearF; rw [if_neg Bool.false_ne_true, if_pos h', if_pos (by omega)]
        rw [e]
        exact near_end a u [1, 3, 7] _ _ 3 rfl
      · have e : nearF a u false = (3, dst a (3 * u)) := by unfold nearF; rw [if_neg Bool.false_ne_true, if_pos h', if_neg (by omega), if_pos h']
        rw [e]
        exact near_end a u [1, 3, 7] _ _ 3 rfl
    · rw [e1] at h b1 ⊢
      have h' : ¬ dst a (3 * u) < dst a u := by omega
      refine near_step a u [1, 3, 7] 2 7 1 (dst a u) ha hu (by decide) (by decide) rfl (by omega) _ (fun h2 => ?_) (fun h2 => ?_)
      · have e : nearF a u false = (7, dst a (7 * u)) := by unfold nearF; rw [if_neg Bool.false_ne_true, if_neg h', if_pos (by omega)]
        rw [e]
        exact near_end a u [1, 3, 7] _ _ 3 rfl
      · have e : nearF a u false = (1, dst a u) := by unfold nearF; rw [if_neg Bool.false_ne_true, if_neg h', if_neg (by omega), if_neg h']
        rw [e]
        exact near_end a u [1, 3, 7] _ _ 3 rfl
def MK (N : Int) (l : List Int) : Prop := l.length ≤ 20000 ∧ ∀ x ∈ l, 1 ≤ x ∧ x ≤ N
def offA (a u : Int) (m : Bool) : Int := (nearF a u m).2
theorem offA_mark (a u : Int) : offA a u true = mn (dst a u) (dst a (3 * u)) := by
  unfold offA nearF
  rw [if_pos rfl, mn_eq]
  split <;> rfl
theorem offA_gap (a u : Int) : offA a u false = mn (mn (dst a u) (dst a (3 * u))) (dst a (7 * u)) := by
  unfold offA nearF
  rw [if_neg Bool.false_ne_true, mn_eq, mn_eq]
  split <;> split <;> rfl
theorem offA_bd {a u : Int} {m : Bool} (ha : 0 ≤ a ∧ a ≤ 100000) (hu : 0 ≤ u ∧ u ≤ 10000) : 0 ≤ offA a u m ∧ offA a u m ≤ 100000 := by
  have b1 := dst_bd ha (b := u) (by omega)
  have b3 := dst_bd ha (b := 3 * u) (by omega)
  have b7 := dst_bd ha (b := 7 * u) (by omega)
  cases m with
  | true => rw [offA_mark, mn_eq]; split <;> omega
  | false => rw [offA_gap, mn_eq, mn_eq]; split <;> (try split) <;> omega
def offL (u : Int) : Nat → List Int → Int
  | _, [] => 0
  | i, a :: r => offA a u (decide (i % 2 = 0)) + offL u (i + 1) r
theorem off_run (l : List Int) (u : Int) (hl : MK 100000 l) (hu : 1 ≤ u ∧ u ≤ 2000) (d : Nat) : ∀ (i : Nat) (s : Int), i + d = l.length → 0 ≤ s ∧ s ≤ 100000 * (i : Int) → Ev (fun k => key_offOf.l0 k l u s (i : Int)) (s + offL u i (l.drop i)) := by
  have hll := hl.1
  induction d with
  | zero =>
    intro i s hi hs
    rw [List.drop_eq_nil_of_le (by omega)]
    refine Ev.succ ?_
    simp only [key_offOf.l0, offL, Int.add_zero]
    exact Ev.neg (by omega) (Ev.now _)
  | succ d ih =>
    intro i s hi hs
    have hil : i < l.length := by omega
    have ha := hl.2 _ (List.getElem_mem hil)
    have hr := rd_get l i hil
    rw [List.drop_eq_getElem_cons hil]
    generalize l[i] = a at ha hr
    have b := offA_bd (a := a) (u := u) (m := decide (i % 2 = 0)) (by omega) (by omega)
    have w3 : wrap64 (3 * u) = 3 * u := wrap_id (by omega) (by omega)
    have w7 : wrap64 (7 * u) = 7 * u := wrap_id (by omega) (by omega)
    have d1 : mx (wrap64 (a - u)) (wrap64 (u - a)) = dst a u := by rw [wrap_id (e := a - u) (by omega) (by omega), wrap_id (e := u - a) (by omega) (by omega)]; rfl
    have d3 : mx (wrap64 (a - 3 * u)) (wrap64 (3 * u - a)) = dst a (3 * u) := by rw [wrap_id (e := a - 3 * u) (by omega) (by omega), wrap_id (e := 3 * u - a) (by omega) (by omega)]; rfl
    have d7 : mx (wrap64 (a - 7 * u)) (wrap64 (7 * u - a)) = dst a (7 * u) := by rw [wrap_id (e := a - 7 * u) (by omega) (by omega), wrap_id (e := 7 * u - a) (by omega) (by omega)]; rfl
    have ih2 := ih (i + 1) (s + offA a u (decide (i % 2 = 0))) (by omega) (by omega)
    have hj : Ev (fun k => key_offOf.j9 k l u s (i : Int) (offA a u (decide (i % 2 = 0)))) (s + (offA a u (decide (i % 2 = 0)) + offL u (i + 1) (l.drop (i + 1)))) := by
      refine Ev.step (fun k => ?_) (by rw [Int.add_assoc] at ih2; exact ih2)
      simp only [key_offOf.j9, wrap_succ (show i ≤ 1000000000000000 by omega)]
      rw [wrap_id (e := s + offA a u (decide (i % 2 = 0))) (by omega) (by omega)]
    refine Ev.succ ?_
    simp only [key_offOf.l0, hr, w3, w7, d1, d3, d7, isMark_ev, Option.bind_some, offL]
    refine Ev.pos (by omega) (Ev.pos (by omega) (Ev.pos (by omega) ?_))
    by_cases c : i % 2 = 0
    · have c2 : decide (i % 2 = 0) = true := decide_eq_true c
      rw [c2] at hj ⊢
      rw [offA_mark] at hj ⊢
      exact Ev.pos rfl hj
    · have c2 : decide (i % 2 = 0) = false := decide_eq_false c
      rw [c2] at hj ⊢
      rw [offA_gap] at hj ⊢
      exact Ev.neg Bool.false_ne_true hj
theorem offOf_ev (l : List Int) (u : Int) (hl : MK 100000 l) (hu : 1 ≤ u ∧ u ≤ 2000) : Ev (fun k => key_offOf.f k l u) (offL u 0 l) := by
  have := off_run l u hl hu l.length 0 0 (by omega) (by omega)
  unfold key_offOf.f
  simpa using this
/-! ### reading -/
def rdS (u : Int) : Nat → List UInt8 → List UInt8 → List Int → List UInt8
  | _, o, c, [] => o ++ signL c
  | i, o, c, a :: r =>
    if decide (i % 2 = 0) = true then rdS u (i + 1) o (c ++ [if (nearF a u true).1 = 1 then 46 else 45]) r
    else if (nearF a u false).1 = 3 then rdS u (i + 1) (o ++ signL c) [] r
    else if (nearF a u false).1 = 7 then rdS u (i + 1) (o ++ signL c ++ [32]) [] r
    else rdS u (i + 1) o c r
theorem mk_push (p : List UInt8) (b : UInt8) : (mk p).push b = mk (p ++ [b]) := by
  apply ByteArray.ext
  show p.toArray.push b = _
  simp [mk]
theorem wByte (v : Nat) (p : List UInt8) (b : UInt8) (hp : p.length ≤ 1000000) : strings_Builder_WriteByte.f v (mk p) (b.toNat : Int) = some (v + 1, mk (p ++ [b])) := by
  unfold strings_Builder_WriteByte.f
  have hb : b.toNat < 256 := UInt8.toNat_lt b
  rw [if_pos ⟨by rw [mk_size]; omega, by omega, by omega⟩]
  have : UInt8.ofNat ((b.toNat : Int)).toNat = b := by simp
  rw [this, mk_push]
theorem read1_ev (v0 v2 : Nat) (o c : List UInt8) (ho : o.length ≤ 1000000) : ∃ w0 w2, key_read_1.f v0 (mk o) byC v2 (mk c) = some (w0, mk (o ++ signL c), w2, mk []) := by
  refine ⟨v0 + 1, v2 + 1, ?_⟩
  unfold key_read_1.f strings_Builder_String.f strings_Builder_Reset.f strings_Builder_WriteString.f
  simp only [Option.bind_some, keySign, signL_mk]
  rw [if_pos (by rw [mk_size, mk_size, signL_len]; omega), mk_append]
  rfl
theorem read_run (l : List Int) (u : Int) (hl : MK 100000 l) (hu : 1 ≤ u ∧ u ≤ 2000) (d : Nat) : ∀ (i : Nat) (v0 v2 : Nat) (o c : List UInt8), i + d = l.length → o.length ≤ 2 * i → c.length ≤ i → Ev (fun k => key_read.l0 k l u (i : Int) byC v0 (mk o) v2 (mk c)) (mk (rdS u i o c (l.drop i))) := by
  have hll := hl.1
  induction d with
  | zero =>
    intro i v0 v2 o c hi ho hc
    rw [List.drop_eq_nil_of_le (by omega)]
    obtain ⟨w0, w2, e⟩ := read1_ev v0 v2 o c (by omega)
    refine Ev.succ ?_
    simp only [key_read.l0, rdS, e, Option.bind_some, strings_Builder_String.f]
    exact Ev.neg (by omega) (Ev.now _)
  | succ d ih =>
    intro i v0 v2 o c hi ho hc
    have hil : i < l.length := by omega
    have ha := hl.2 _ (List.getElem_mem hil)
    have hr := rd_get l i hil
    rw [List.drop_eq_getElem_cons hil]
    generalize l[i] = a at ha hr
    have hj : ∀ w0 w2 o' c', o'.length ≤ 2 * (i + 1) → c'.length ≤ i + 1 → Ev (fun k => key_read.j17 k l u (i : Int) byC w0 (mk o') w2 (mk c')) (mk (rdS u (i + 1) o' c' (l.drop (i + 1)))) := fun w0 w2 o' c' h1 h2 =>
      Ev.step (fun k => by simp only [key_read.j17, wrap_succ (show i ≤ 1000000000000000 by omega)]) (ih (i + 1) w0 w2 o' c' (by omega) h1 h2)
    have hn := fun m => nearest_ev a u m (by omega) (by omega)
    obtain ⟨w0, w2, e⟩ := read1_ev v0 v2 o c (by omega)
    have lo : (o ++ signL c).length ≤ 2 * (i + 1) := by rw [List.length_append, signL_len]; omega
    refine Ev.succ ?_
    simp only [key_read.l0, hr, isMark_ev, Option.bind_some, rdS]
    refine Ev.pos (by omega) (Ev.pos (by omega) (Ev.pos (by omega) ?_))
    by_cases c0 : i % 2 = 0
    · have c2 : decide (i % 2 = 0) = true := decide_eq_true c0
      simp only [c2, if_pos]
      refine Ev.bind (hn true) ?_
      by_cases c1 : (nearF a u true).1 = 1
      · have := wByte v2 c 46 (by omega)
        simp only [UInt8.reduceToNat] at this
        simp only [if_pos c1]
        rw [show (46 : Int) = ((46 : UInt8).toNat : Int) from rfl, wByte v2 c 46 (by omega)]
        exact hj _ _ _ _ (by omega) (by simp; omega)
      · simp only [if_neg c1]
        rw [show (45 : Int) = ((45 : UInt8).toNat : Int) from rfl, wByte v2 c 45 (by omega)]
        exact hj _ _ _ _ (by omega) (by simp; omega)
    · have c2 : decide (i % 2 = 0) = false := decide_eq_false c0
      simp only [c2, if_neg Bool.false_ne_true]
      refine Ev.bind (hn false) ?_
      by_cases c3 : (nearF a u false).1 = 3
      · simp only [if_pos c3, e, Option.bind_some]
        exact hj _ _ _ _ lo (by simp)
      · simp only [if_neg c3]
        by_cases c7 : (nearF a u false).1 = 7
        · simp only [if_pos c7, e, Option.bind_some]
          rw [show (32 : Int) = ((32 : UInt8).toNat : Int) from rfl, wByte w0 (o ++ signL c) 32 (by omega)]
          exact hj _ _ _ _ (by rw [List.length_append, List.length_append, signL_len]; simp; omega) (by simp)
        · simp only [if_neg c7]
          exact hj _ _ _ _ (by omega) (by omega)
def readL (u : Int) (l : List Int) : List UInt8 := rdS u 0 [] [] l
theorem read_ev (l : List Int) (u : Int) (hl : MK 100000 l) (hu : 1 ≤ u ∧ u ≤ 2000) : Ev (fun k => key_read.f k l u) (mk (readL u l)) := by
  unfold key_read.f
  have := read_run l u hl hu l.length 0 0 0 [] [] (by omega) (by simp) (by simp)
  rw [List.drop_zero] at this
  exact Ev.bind byCodes_ev this
theorem rdS_len (u : Int) : ∀ (l : List Int) (i : Nat) (o c : List UInt8), (rdS u i o c l).length ≤ o.length + 2 * l.length + 1
  | [], i, o, c => by simp [rdS, signL_len]
  | a :: r, i, o, c => by
    have h := rdS_len u r (i + 1)
    simp only [rdS, List.length_cons]
    split
    · have := h o (c ++ [if (nearF a u true).1 = 1 then 46 else 45]); omega
    · split
      · have := h (o ++ signL c) []
        rw [List.length_append, signL_len] at this
        omega
      · split
        · have := h (o ++ signL c ++ [32]) []
          rw [List.length_append, List.length_append, signL_len, List.length_cons, List.length_nil] at this
          omega
        · have := h o c; omega
/-! ### the marks' faults, and the unit that fits best -/
theorem CheckOK (l : List Int) (hl : MK 100000 l) (ho : l.length % 2 = 1) : Ev (fun k => key_CheckMarks.f k l) 0 := by
  have hll := hl.1
  obtain ⟨v, rfl, hv⟩ := loop l (fun k i (_ : Unit) => slices_IndexFunc_int_int_of_key_CheckMarks_1.l0 k l i) (fun _ _ => True) (fun v => v = -1)
    (fun i _ hi _ => .inl ⟨(), trivial, fun v hv => Ev.step (fun k => by
      have hx := hl.2 _ (List.getElem_mem hi)
      simp only [slices_IndexFunc_int_int_of_key_CheckMarks_1.l0, key_CheckMarks_1.f, kit_Outside.f]
      rw [if_pos (by omega), if_pos (by omega), if_pos (by omega), rd_get l i hi, if_neg (by omega)]
      simp only [Option.bind_some]
      rw [if_neg (by simp; omega), wrap_succ (by omega)]) hv⟩)
    (fun _ _ => ⟨-1, rfl, Ev.step (f := fun _ => some _) (fun k => by simp only [slices_IndexFunc_int_int_of_key_CheckMarks_1.l0]; rw [if_neg (by omega)]) (Ev.now _)⟩) 0 () (by omega) trivial
  have hc : Ev (fun k => slices_ContainsFunc_int_int_of_key_CheckMarks_1.f k l) false := Ev.bind (f := fun k => slices_IndexFunc_int_int_of_key_CheckMarks_1.l0 k l 0) hv (Ev.now _)
  unfold key_CheckMarks.f
  refine Ev.neg (by omega) (Ev.neg (by omega) (Ev.neg ?_ (Ev.bind hc (Ev.neg Bool.false_ne_true (Ev.now _)))))
  rw [tmod_pos (by omega)]
  omega
theorem unitOK (l : List Int) (u : Int) (hl : MK 100000 l) (ho : l.length % 2 = 1) (hu : 1 ≤ u ∧ u ≤ 2000) : Ev (fun k => key_unitFault.f k l u) 0 := by
  have hO : kit_Outside.f u 1 2000 = some false := by unfold kit_Outside.f; rw [if_neg (by omega)]; simp; omega
  unfold key_unitFault.f
  simp only [hO, Option.bind_some]
  exact Ev.bind (CheckOK l hl ho) (Ev.pos rfl (Ev.neg Bool.false_ne_true (Ev.now _)))
theorem With_ev (l : List Int) (u : Int) (hl : MK 100000 l) (ho : l.length % 2 = 1) (hu : 1 ≤ u ∧ u ≤ 2000) : Ev (fun k => key_With.f k l u) (mk (readL u l), offL u 0 l, 0) := by
  unfold key_With.f
  exact Ev.bind (unitOK l u hl ho hu) (Ev.pos rfl (Ev.bind (read_ev l u hl hu) (Ev.bind (offOf_ev l u hl hu) (Ev.now _))))
/-- The unit that fits best, of those up to n: the greatest one. -/
def Best (l : List Int) (n b : Int) : Prop := 1 ≤ b ∧ b ≤ n ∧ ∀ u, 1 ≤ u → u ≤ n → offL b 0 l ≤ offL u 0 l ∧ (offL b 0 l = offL u 0 l → u ≤ b)
theorem Best.uniq {l : List Int} {n b c : Int} (h : Best l n b) (h2 : Best l n c) : b = c := by
  have a1 := h.2.2 c h2.1 h2.2.1
  have a2 := h2.2.2 b h.1 h.2.1
  have := a1.2 (by omega)
  have := a2.2 (by omega)
  omega
def hearR (l : List Int) (b : Int) : ByteArray × Int × Int × Bool × Int := if ((mk (readL b l)).size : Int) > 500 then (eB, 0, 0, false, 0) else (mk (readL b l), b, offL b 0 l, true, 0)
theorem hear_run (l : List Int) (hl : MK 100000 l) (d : Nat) : ∀ (u : Nat) (b : Int), u + d = 2000 → 1 ≤ u → Best l (u : Int) b → ∃ c, Best l 2000 c ∧ Ev (fun k => key_Hear.l0 k l b (offL b 0 l) ((u + 1 : Nat) : Int)) (hearR l c) := by
  induction d with
  | zero =>
    intro u b hd h1 hb
    obtain rfl : u = 2000 := by omega
    refine ⟨b, hb, Ev.succ ?_⟩
    simp only [key_Hear.l0]
    refine Ev.neg (by omega) (Ev.bind (read_ev l b hl ⟨hb.1, by have := hb.2.1; omega⟩) ?_)
    unfold hearR
    exact Ev.ite (fun c => by rw [if_pos c]; exact Ev.now _) (fun c => by rw [if_neg c]; exact Ev.now _)
  | succ d ih =>
    intro u b hd h1 hb
    have hw : wrap64 (((u + 1 : Nat) : Int) + 1) = ((u + 1 + 1 : Nat) : Int) := wrap_succ (by omega)
    have hj : ∀ c : Int, Best l ((u + 1 : Nat) : Int) c → ∃ c', Best l 2000 c' ∧ Ev (fun k => key_Hear.j7 k l ((u + 1 : Nat) : Int) c (offL c 0 l)) (hearR l c') := fun c hc => by
      obtain ⟨c', h3, h4⟩ := ih (u + 1) c (by omega) (by omega) hc
      exact ⟨c', h3, Ev.step (fun k => by simp only [key_Hear.j7, hw]) h4⟩
    have ho := offOf_ev l ((u + 1 : Nat) : Int) hl (by omega)
    have hb0 := hb.1
    have hbn := hb.2.1
    by_cases c : offL ((u + 1 : Nat) : Int) 0 l ≤ offL b 0 l
    · obtain ⟨c', h3, h4⟩ := hj ((u + 1 : Nat) : Int) ⟨by omega, by omega, fun x x1 x2 => by
        by_cases e : x = ((u + 1 : Nat) : Int)
        · subst e; exact ⟨Int.le_refl _, fun _ => Int.le_refl _⟩
        · have := hb.2.2 x x1 (by omega)
          exact ⟨by omega, fun _ => by omega⟩⟩
      refine ⟨c', h3, Ev.succ ?_⟩
      simp only [key_Hear.l0]
      exact Ev.pos (by omega) (Ev.bind ho (Ev.neg (by omega) (Ev.pos c h4)))
    · obtain ⟨c', h3, h4⟩ := hj b ⟨by omega, by omega, fun x x1 x2 => by
        by_cases e : x = ((u + 1 : Nat) : Int)
        · subst e; exact ⟨by omega, fun e2 => by omega⟩
        · exact hb.2.2 x x1 (by omega)⟩
      refine ⟨c', h3, Ev.succ ?_⟩
      simp only [key_Hear.l0]
      exact Ev.pos (by omega) (Ev.bind ho (Ev.neg (by omega) (Ev.neg c h4)))
theorem Hear_ev (l : List Int) (hl : MK 100000 l) (ho : l.length % 2 = 1) : ∃ c, Best l 2000 c ∧ Ev (fun k => key_Hear.f k l) (hearR l c) := by
  obtain ⟨c, h1, h2⟩ := hear_run l hl 1999 1 1 (by omega) (by omega) ⟨by omega, by omega, fun u u1 u2 => by obtain rfl : u = 1 := (by omega); exact ⟨Int.le_refl _, fun _ => Int.le_refl _⟩⟩
  refine ⟨c, h1, ?_⟩
  unfold key_Hear.f
  refine Ev.bind (CheckOK l hl ho) (Ev.pos rfl (Ev.succ ?_))
  simp only [key_Hear.l0]
  refine Ev.pos (by omega) (Ev.bind (offOf_ev l 1 hl (by omega)) (Ev.pos (by first | trivial | rfl) (Ev.succ ?_)))
  simp only [key_Hear.j7]
  rw [wrap_id (e := 1 + 1) (by omega) (by omega)]
  exact h2
end Go.EV.Pure
namespace Go.EV.Pure
open Go Go.EV Go.RowKit
set_option linter.unusedSimpArgs false
set_option maxRecDepth 100000
/-! What is drawn as marks and gaps. -/
theorem elE_all (u N : Int) (hu : 1 ≤ u ∧ 3 * u ≤ N) (c : List UInt8) : ∀ x ∈ elE u c, 1 ≤ x ∧ x ≤ N := by
  have hm : ∀ b, 1 ≤ mrk u b ∧ mrk u b ≤ N := fun b => by unfold mrk; split <;> omega
  cases c with
  | nil => intro x hx; cases hx
  | cons a r =>
    intro x hx
    rcases List.mem_cons.1 hx with rfl | hx
    · exact hm a
    · obtain ⟨b, _, hb⟩ := List.mem_flatMap.1 hx
      simp only [List.mem_cons, List.not_mem_nil, or_false] at hb
      rcases hb with rfl | rfl
      · omega
      · exact hm b
theorem elE_odd (u : Int) (c : List UInt8) (hc : c ≠ []) : (elE u c).length = 2 * c.length - 1 := by
  cases c with
  | nil => exact absurd rfl hc
  | cons a r =>
    have : (tailE u r).length = 2 * r.length := by
      unfold tailE
      induction r with
      | nil => rfl
      | cons b r ih => simp only [List.flatMap_cons, List.length_append, ih (by simp), List.length_cons, List.length_nil]; omega
    simp only [elE, List.length_cons, this]
    omega
theorem elW_all (u s N : Int) (hu : 1 ≤ u ∧ 3 * u ≤ N) (hs : 1 ≤ s ∧ 3 * s ≤ N) (w : List UInt8) : ∀ x ∈ elW u s w, 1 ≤ x ∧ x ≤ N := by
  cases w with
  | nil => intro x hx; cases hx
  | cons a r =>
    intro x hx
    rcases List.mem_append.1 hx with hx | hx
    · exact elE_all u N hu _ x hx
    · obtain ⟨b, _, hb⟩ := List.mem_flatMap.1 hx
      rcases List.mem_cons.1 hb with rfl | hb
      · omega
      · exact elE_all u N hu _ x hb
theorem elW_odd (u s : Int) (w : List UInt8) (hw : w ≠ []) (h : ∀ b ∈ w, isSign b = true) : (elW u s w).length % 2 = 1 := by
  have hc : ∀ b ∈ w, (elE u (codeL b)).length % 2 = 1 := fun b hb => by
    have h1 := (code_facts b).1 (h b hb)
    have := elE_odd u _ h1
    have : 1 ≤ (codeL b).length := List.length_pos_iff.2 h1
    omega
  cases w with
  | nil => exact absurd rfl hw
  | cons a r =>
    have ht : ∀ r : List UInt8, (∀ b ∈ r, (elE u (codeL b)).length % 2 = 1) → (tailW u s r).length % 2 = 0 := by
      intro r
      induction r with
      | nil => intro _; rfl
      | cons b r ih =>
        intro hh
        have h1 := hh b (by simp)
        have h2 := ih (fun x hx => hh x (by simp [hx]))
        unfold tailW at h2 ⊢
        simp only [List.flatMap_cons, List.length_append, List.length_cons]
        omega
    have h1 := hc a (by simp)
    have h2 := ht r (fun b hb => hc b (by simp [hb]))
    simp only [elW, List.length_append]
    omega
theorem elT_all (u s N : Int) (hu : 1 ≤ u ∧ 3 * u ≤ N) (hs : 1 ≤ s ∧ 7 * s ≤ N) (W : List (List UInt8)) : ∀ x ∈ elT u s W, 1 ≤ x ∧ x ≤ N := by
  cases W with
  | nil => intro x hx; cases hx
  | cons a r =>
    intro x hx
    rcases List.mem_append.1 hx with hx | hx
    · exact elW_all u s N hu (by omega) _ x hx
    · obtain ⟨b, _, hb⟩ := List.mem_flatMap.1 hx
      rcases List.mem_cons.1 hb with rfl | hb
      · omega
      · exact elW_all u s N hu (by omega) _ x hb
theorem elT_odd (u s : Int) (W : List (List UInt8)) (hW : W ≠ []) (h : ∀ w ∈ W, w ≠ [] ∧ ∀ b ∈ w, isSign b = true) : (elT u s W).length % 2 = 1 := by
  have hc : ∀ w ∈ W, (elW u s w).length % 2 = 1 := fun w hw => elW_odd u s w (h w hw).1 (h w hw).2
  cases W with
  | nil => exact absurd rfl hW
  | cons a r =>
    have ht : ∀ r : List (List UInt8), (∀ w ∈ r, (elW u s w).length % 2 = 1) → (tailT u s r).length % 2 = 0 := by
      intro r
      induction r with
      | nil => intro _; rfl
      | cons b r ih =>
        intro hh
        have h1 := hh b (by simp)
        have h2 := ih (fun x hx => hh x (by simp [hx]))
        unfold tailT at h2 ⊢
        simp only [List.flatMap_cons, List.length_append, List.length_cons]
        omega
    have h1 := hc a (by simp)
    have h2 := ht r (fun b hb => hc b (by simp [hb]))
    simp only [elT, List.length_append]
    omega
theorem changed_run (u : Int) (hu : 1 ≤ u ∧ u ≤ 100) (l : List Int) (hl : l.length ≤ 140737488351232) (n : Nat) (hn : n ≤ 1000) (d : Nat) : ∀ (i : Nat) (L : List Int) (s : Int), i + d = n → L.length = n → (∀ (j : Nat) (h : j < L.length), 1 ≤ L[j] ∧ L[j] ≤ 1500 ∧ (i ≤ j → L[j] ≤ 1400)) → 0 ≤ s → s + 2 * d ≤ 4611686018427380000 →
    ∃ L' s', Ev (fun k => pilemake_Stream_RightKeyed.l0 k u (n : Int) (i : Int) L l s) (L', l, s') ∧ L'.length = n ∧ (∀ x ∈ L', 1 ≤ x ∧ x ≤ 1500) ∧ s ≤ s' ∧ s' ≤ s + 2 * d := by
  induction d with
  | zero =>
    intro i L s hi hL hb h0 h1
    obtain rfl : i = n := by omega
    refine ⟨L, s, Ev.step (f := fun _ => some _) (fun k => ?_) (Ev.now _), hL, fun x hx => ?_, by omega, by omega⟩
    · simp only [pilemake_Stream_RightKeyed.l0]
      rw [if_neg (by omega)]
    · obtain ⟨j, hj, rfl⟩ := List.getElem_of_mem hx
      exact ⟨(hb j hj).1, (hb j hj).2.1⟩
  | succ d ih =>
    intro i L s hi hL hb h0 h1
    have hw : wrap64 ((i : Int) + 1) = ((i + 1 : Nat) : Int) := wrap_succ (by omega)
    have hj : ∀ (L2 : List Int) (s2 : Int), (∃ L' s', Ev (fun k => pilemake_Stream_RightKeyed.l0 k u (n : Int) ((i + 1 : Nat) : Int) L2 l s2) (L', l, s') ∧ L'.length = n ∧ (∀ x ∈ L', 1 ≤ x ∧ x ≤ 1500) ∧ s2 ≤ s' ∧ s' ≤ s2 + 2 * d) →
        ∃ L' s', Ev (fun k => pilemake_Stream_RightKeyed.j8 k u (n : Int) (i : Int) L2 l s2) (L', l, s') ∧ L'.length = n ∧ (∀ x ∈ L', 1 ≤ x ∧ x ≤ 1500) ∧ s2 ≤ s' ∧ s' ≤ s2 + 2 * d := fun L2 s2 ⟨L', s', e, r⟩ =>
      ⟨L', s', Ev.step (fun k => by simp only [pilemake_Stream_RightKeyed.j8, hw]) e, r⟩
    have hil : i < L.length := by omega
    obtain ⟨f, e1⟩ := Flip_spec l s 3 h0 (by omega) (by omega) hl
    cases f with
    | true =>
      obtain ⟨r, e2, m2⟩ := Pick_spec l (s + 1) [1, (-1), wrap64 (Int.tdiv u 3), wrap64 (Int.tdiv (wrap64 (0 - u)) 3), u, wrap64 (0 - u)] (by omega) (by omega) hl (by simp) (by simp)
      have hr : -100 ≤ r ∧ r ≤ 100 := by
        have t1 : Int.tdiv u 3 = u / 3 := tdiv_pos (by omega)
        have n1 : wrap64 (0 - u) = -u := by rw [wrap_id (by omega) (by omega)]; omega
        have t2 : Int.tdiv (-u) 3 = -(u / 3) := by rw [Int.neg_tdiv, t1]
        rw [n1, t1, t2, wrap_id (by omega) (by omega), wrap_id (by omega) (by omega)] at m2
        simp only [List.mem_cons, List.not_mem_nil, or_false] at m2
        omega
      have hbi := hb i hil
      have hbi2 := hbi.2.2 (Nat.le_refl _)
      have hmx : 1 ≤ mx 1 (L[i] + r) ∧ mx 1 (L[i] + r) ≤ 1500 := by rw [mx_eq]; split <;> omega
      obtain ⟨L', s', e, r1, r2, r3, r4⟩ := hj (L.set i (mx 1 (L[i] + r))) (s + 1 + 1) (ih (i + 1) _ (s + 1 + 1) (by omega) (by simpa using hL) (fun j h => by
        by_cases c : i = j
        · subst c
          rw [List.getElem_set_self]
          exact ⟨hmx.1, hmx.2, fun h' => by omega⟩
        · rw [List.getElem_set_ne c]
          have := hb j (by simpa using h)
          exact ⟨this.1, this.2.1, fun h' => this.2.2 (by omega)⟩) (by omega) (by omega))
      refine ⟨L', s', Ev.succ ?_, r1, r2, by omega, by omega⟩
      simp only [pilemake_Stream_RightKeyed.l0]
      refine Ev.pos (by omega) (Ev.bind e1 (Ev.pos rfl (Ev.pos (by omega) (Ev.pos (by omega) (Ev.bind e2 (Ev.pos (by omega) (Ev.pos (by omega) ?_)))))))
      simp only [rd_get L i hil, wrap_id (e := L[i] + r) (by omega) (by omega), Int.toNat_natCast]
      exact e
    | false =>
      obtain ⟨L', s', e, r1, r2, r3, r4⟩ := hj L (s + 1) (ih (i + 1) L (s + 1) (by omega) hL (fun j h => by
        have := hb j h
        exact ⟨this.1, this.2.1, fun h' => this.2.2 (by omega)⟩) (by omega) (by omega))
      refine ⟨L', s', Ev.succ ?_, r1, r2, by omega, by omega⟩
      simp only [pilemake_Stream_RightKeyed.l0]
      exact Ev.pos (by omega) (Ev.bind e1 (Ev.neg Bool.false_ne_true e))
def drawnW : List ByteArray := [(⟨#[101]⟩ : ByteArray), (⟨#[112, 97, 114, 105, 115]⟩ : ByteArray), (⟨#[107, 49, 97, 98, 32, 107]⟩ : ByteArray), (⟨#[116, 101, 115, 116, 32, 116]⟩ : ByteArray), (⟨#[53, 110, 110]⟩ : ByteArray), (⟨#[97, 32, 110]⟩ : ByteArray)]
theorem drawn_ok : ∀ w ∈ drawnW, ∃ p : List UInt8, w = mk p ∧ saidF p = 0 ∧ p.length ≤ 6 := by
  intro w hw
  simp only [drawnW, List.mem_cons, List.not_mem_nil, or_false] at hw
  rcases hw with rfl | rfl | rfl | rfl | rfl | rfl
  · exact ⟨[101], rfl, by decide +kernel, by decide⟩
  · exact ⟨[112, 97, 114, 105, 115], rfl, by decide +kernel, by decide⟩
  · exact ⟨[107, 49, 97, 98, 32, 107], rfl, by decide +kernel, by decide⟩
  · exact ⟨[116, 101, 115, 116, 32, 116], rfl, by decide +kernel, by decide⟩
  · exact ⟨[53, 110, 110], rfl, by decide +kernel, by decide⟩
  · exact ⟨[97, 32, 110], rfl, by decide +kernel, by decide⟩
theorem RightKeyed_sp (l : List Int) (hl : l.length ≤ 140737488351232) (s : Int) (h0 : 0 ≤ s) (h1 : s ≤ 1000000) : ∃ L s', Ev (fun k => pilemake_Stream_RightKeyed.f k l s) (L, l, s') ∧ L.length % 2 = 1 ∧ L.length ≤ 100 ∧ (∀ x ∈ L, 1 ≤ x ∧ x ≤ 1500) ∧ s ≤ s' ∧ s' ≤ s + 1000 := by
  obtain ⟨u, e1, m1⟩ := Pick_spec l s [1, 20, 60, 100] (by omega) (by omega) hl (by simp) (by simp)
  obtain ⟨w, e2, m2⟩ := Some_spec l (s + 1) drawnW (by omega) (by omega) hl (by simp [drawnW]) (by simp [drawnW])
  obtain ⟨c, e3, m3⟩ := Pick_spec l (s + 1 + 1) [1, 1, 2] (by omega) (by omega) hl (by simp) (by simp)
  have hu : 1 ≤ u ∧ u ≤ 100 := by
    simp only [List.mem_cons, List.not_mem_nil, or_false] at m1
    omega
  have hc : c = 1 ∨ c = 2 := by
    simp only [List.mem_cons, List.not_mem_nil, or_false] at m3
    omega
  have huc : 1 ≤ u * c ∧ u * c ≤ 200 := by rcases hc with rfl | rfl <;> omega
  obtain ⟨p, rfl, hp, hpl⟩ := drawn_ok w m2
  obtain ⟨_, _, hx⟩ := said_all hp
  have e4 := KeyedOf_full p hp u (u * c) (by omega) (by omega)
  obtain ⟨w0, q0, hw0⟩ := wordsOf_ne p
  have k1 := elT_odd u (u * c) (wordsOf p) (by rw [hw0]; simp) hx
  have k2 := elT_len u (u * c) (wordsOf p)
  rw [words_sum] at k2
  have k3 := elT_all u (u * c) 1400 (by omega) (by omega) (wordsOf p)
  obtain ⟨L', s', e5, r1, r2, r3, r4⟩ := changed_run u hu l hl (elT u (u * c) (wordsOf p)).length (by omega) (elT u (u * c) (wordsOf p)).length 0 _ (s + 1 + 1 + 1) (by omega) rfl (fun j h => by
    have := k3 _ (List.getElem_mem h)
    exact ⟨this.1, by omega, fun _ => this.2⟩) (by omega) (by omega)
  refine ⟨L', s', Ev.bind e1 (Ev.bind e2 (Ev.bind e3 ?_)), by omega, by omega, r2, by omega, by omega⟩
  simp only [wrap_id (e := u * c) (by omega) (by omega)]
  exact Ev.bind e4 e5
end Go.EV.Pure
namespace Go.EV.Pure
open Go Go.EV Go.RowKit
set_option linter.unusedSimpArgs false
set_option linter.unusedVariables false
set_option maxRecDepth 100000
/-! What is keyed evenly is heard as it was said. -/
theorem joinSp_flat (w : List UInt8) (q : List (List UInt8)) : joinSp (w :: q) = w ++ q.flatMap fun x => 32 :: x := by
  induction q generalizing w with
  | nil => simp [joinSp]
  | cons x q ih =>
    show w ++ 32 :: joinSp (x :: q) = _
    rw [ih]
    simp
def Even (u : Int) : Nat → List Int → Prop
  | _, [] => True
  | i, a :: r => (a = u ∨ a = 3 * u ∨ (a = 7 * u ∧ i % 2 = 1)) ∧ Even u (i + 1) r
theorem Even.two {u : Int} : ∀ {l : List Int} {i : Nat}, (∀ x ∈ l, x = u ∨ x = 3 * u) → Even u i l
  | [], _, _ => trivial
  | a :: l, i, h => ⟨(h a (by simp)).elim .inl fun x => .inr (.inl x), Even.two fun x hx => h x (by simp [hx])⟩
theorem Even.at {u : Int} : ∀ {l : List Int} {i : Nat}, Even u i l → ∀ (j : Nat) (h : j < l.length), l[j] = u ∨ l[j] = 3 * u ∨ (l[j] = 7 * u ∧ (i + j) % 2 = 1)
  | a :: r, i, h, 0, _ => h.1
  | a :: r, i, h, j + 1, hj => by
    have := Even.at h.2 j (by simpa using hj)
    have e : i + 1 + j = i + (j + 1) := by omega
    rw [e] at this
    exact this
theorem idx3_hit (rest : List UInt8) : ∀ p : List UInt8, (47 : UInt8) ∉ p → Lib.index (p ++ 32 :: 47 :: 32 :: rest) [32, 47, 32] = (p.length : Int)
  | [], _ => by simp [Lib.index, List.isPrefixOf]
  | b :: p, h => by
    have ih := idx3_hit rest p (fun h' => h (by simp [h']))
    have hp : List.isPrefixOf [32, 47, 32] (b :: (p ++ 32 :: 47 :: 32 :: rest)) = false := by
      cases p with
      | nil => simp [List.isPrefixOf]
      | cons c p =>
        have hc : ¬ (47 : UInt8) = c := fun e => h (by simp [e])
        have : ((47 : UInt8) == c) = false := by simpa using hc
        simp [List.isPrefixOf, this]
    simp only [List.cons_append, Lib.index, ih, hp]
    simp <;> omega
theorem idx3_miss : ∀ p : List UInt8, (47 : UInt8) ∉ p → Lib.index p [32, 47, 32] = -1
  | [], _ => by simp [Lib.index]
  | b :: p, h => by
    have ih := idx3_miss p (fun h' => h (by simp [h']))
    have hp : List.isPrefixOf [32, 47, 32] (b :: p) = false := by
      cases p with
      | nil => simp [List.isPrefixOf]
      | cons c p =>
        have hc : ¬ (47 : UInt8) = c := fun e => h (by simp [e])
        have : ((47 : UInt8) == c) = false := by simpa using hc
        simp [List.isPrefixOf, this]
    simp only [Lib.index, ih, hp]
    simp
def sep3 : List UInt8 := [32, 47, 32]
theorem join3_cons (q p : List UInt8) (r : List (List UInt8)) : Lib.join (q :: p :: r) sep3 = q ++ 32 :: 47 :: 32 :: Lib.join (p :: r) sep3 := by
  rw [Lib.join_cons, Lib.join_cons]
  simp [Lib.joinTail, sep3]
theorem split3_all : ∀ (q : List UInt8) (r : List (List UInt8)), (∀ p ∈ q :: r, (47 : UInt8) ∉ p) → Lib.countB (mk (Lib.join (q :: r) sep3)) (mk sep3) = r.length ∧ Lib.splitB (mk sep3) 0 r.length (mk (Lib.join (q :: r) sep3)) = (q :: r).map mk
  | q, [], h => by
    rw [Lib.join_one]
    exact ⟨Lib.countB_miss _ _ (idx3_miss q (h q (by simp))), rfl⟩
  | q, p :: r, h => by
    obtain ⟨h1, h2⟩ := split3_all p r (fun x hx => h x (by simp [List.mem_cons.1 hx]))
    have hi : Lib.indexB (mk (Lib.join (q :: p :: r) sep3)) (mk sep3) = ((q.length : Nat) : Int) := by rw [join3_cons]; exact idx3_hit _ q (h q (by simp))
    have hs : (mk sep3).size = 3 := rfl
    have et : (mk (Lib.join (q :: p :: r) sep3)).extract (q.length + 3) (mk (Lib.join (q :: p :: r) sep3)).size = mk (Lib.join (p :: r) sep3) := by
      rw [join3_cons, mk_extract, mk_size, List.take_length]
      congr 1
      rw [List.drop_append, List.drop_eq_nil_of_le (by omega), List.nil_append, Nat.add_sub_cancel_left]
      rfl
    have eh : (mk (Lib.join (q :: p :: r) sep3)).extract 0 q.length = mk q := by
      rw [join3_cons, mk_extract]
      simp
    constructor
    · rw [Lib.countB_hit _ _ q.length (by rw [hs]; omega) hi, hs, et, h1]
      simp
      omega
    · rw [List.length_cons, Lib.splitB_hit _ _ _ _ q.length hi, hs, Nat.add_zero, eh, et, h2]
      rfl
theorem words_join : ∀ (c : List UInt8) (r : List (List UInt8)), (∀ x ∈ c :: r, (32 : UInt8) ∉ x) → wordsOf (joinSp (c :: r)) = c :: r := by
  have key : ∀ (c t : List UInt8), (32 : UInt8) ∉ c → wordsOf (c ++ 32 :: t) = c :: wordsOf t := by
    intro c
    induction c with
    | nil => intro t _; simp [wordsOf]
    | cons b c ih =>
      intro t h
      have hb : ¬ b = 32 := fun e => h (by simp [e])
      have := ih t (fun h' => h (by simp [h']))
      rw [List.cons_append, wordsOf, if_neg hb, this]
  have one : ∀ c : List UInt8, (32 : UInt8) ∉ c → wordsOf c = [c] := by
    intro c
    induction c with
    | nil => intro _; rfl
    | cons b c ih =>
      intro h
      have hb : ¬ b = 32 := fun e => h (by simp [e])
      have := ih (fun h' => h (by simp [h']))
      rw [wordsOf, if_neg hb, this]
  intro c r
  induction r generalizing c with
  | nil => intro h; exact one c (h c (by simp))
  | cons x r ih =>
    intro h
    show wordsOf (c ++ 32 :: joinSp (x :: r)) = _
    rw [key c _ (h c (by simp)), ih x (fun y hy => h y (by simp [List.mem_cons.1 hy]))]
theorem join_sp (c : List UInt8) (r : List (List UInt8)) : Lib.join (c :: r) [32] = joinSp (c :: r) := by
  rw [joinSp_flat, Lib.join_cons]
  congr 1
end Go.EV.Pure
namespace Go.EV.Pure
open Go Go.EV Go.RowKit
set_option linter.unusedSimpArgs false
set_option linter.unusedVariables false
set_option maxRecDepth 100000
/-! The document's answers on marks and gaps: faults, units, reading. -/
def okM (x : Int) : Bool := decide (1 ≤ x ∧ x ≤ 100000)
def marksF (l : List Int) : Int := if l.length = 0 then 8 else if l.length > 20000 then 2 else if l.length % 2 = 0 then 3 else if l.all okM = true then 0 else 1
theorem CheckMarks_full (l : List Int) : Ev (fun k => key_CheckMarks.f k l) (marksF l) := by
  unfold key_CheckMarks.f marksF
  by_cases c0 : l.length = 0
  · rw [if_pos c0]; exact Ev.pos (by omega) (Ev.now _)
  rw [if_neg c0]
  refine Ev.neg (by omega) ?_
  by_cases c1 : l.length > 20000
  · rw [if_pos c1]; exact Ev.pos (by omega) (Ev.now _)
  rw [if_neg c1]
  refine Ev.neg (by omega) ?_
  by_cases c2 : l.length % 2 = 0
  · rw [if_pos c2]; exact Ev.pos (by rw [tmod_pos (by omega)]; omega) (Ev.now _)
  rw [if_neg c2]
  refine Ev.neg (by rw [tmod_pos (by omega)]; omega) ?_
  have hO : ∀ x, kit_Outside.f x 1 100000 = some (!okM x) := fun x => by
    unfold kit_Outside.f okM
    by_cases h1 : x < 1
    · rw [if_pos h1]
      exact congrArg some (by rw [Bool.eq_iff_iff]; simp; omega)
    · rw [if_neg h1]
      exact congrArg some (by rw [Bool.eq_iff_iff]; simp; omega)
  obtain ⟨v, hv, he⟩ := loop l (fun k i (_ : Unit) => slices_IndexFunc_int_int_of_key_CheckMarks_1.l0 k l i) (fun i _ => ∀ (j : Nat) (h : j < l.length), j < i → okM l[j] = true) (fun v => (0 ≤ v ∧ l.all okM = false) ∨ (v = -1 ∧ l.all okM = true))
    (fun i _ hi hI => by
      have h1 : (i : Int) < (l.length : Int) := by omega
      by_cases c : okM l[i] = true
      · refine .inl ⟨(), fun j h hj => ?_, fun v hv => Ev.succ ?_⟩
        · by_cases e : j = i
          · subst e; exact c
          · exact hI j h (by omega)
        · simp only [slices_IndexFunc_int_int_of_key_CheckMarks_1.l0, key_CheckMarks_1.f, hO, rd_get l i hi, Option.bind_some, c, wrap_succ (show i ≤ 1000000000000000 by omega)]
          exact Ev.pos h1 (Ev.pos (by omega) (Ev.pos h1 (Ev.neg (by decide) hv)))
      · refine .inr ⟨(i : Int), .inl ⟨by omega, ?_⟩, Ev.succ ?_⟩
        · rw [Bool.eq_false_iff]
          intro h
          rw [List.all_eq_true] at h
          exact c (h _ (List.getElem_mem hi))
        · have c : okM l[i] = false := by simpa using c
          simp only [slices_IndexFunc_int_int_of_key_CheckMarks_1.l0, key_CheckMarks_1.f, hO, rd_get l i hi, Option.bind_some, c]
          exact Ev.pos h1 (Ev.pos (by omega) (Ev.pos h1 (Ev.pos (by decide) (Ev.now _)))))
    (fun _ hI => ⟨-1, .inr ⟨rfl, by
      rw [List.all_eq_true]
      intro x hx
      obtain ⟨j, hj, rfl⟩ := List.getElem_of_mem hx
      exact hI j hj hj⟩, Ev.succ (by simp only [slices_IndexFunc_int_int_of_key_CheckMarks_1.l0]; exact Ev.neg (by omega) (Ev.now _))⟩) 0 () (by omega) (fun j h hj => by omega)
  have hc : Ev (fun k => slices_ContainsFunc_int_int_of_key_CheckMarks_1.f k l) (decide (v ≥ 0)) := Ev.bind (f := fun k => slices_IndexFunc_int_int_of_key_CheckMarks_1.l0 k l 0) he (Ev.now _)
  rcases hv with ⟨h1, h2⟩ | ⟨rfl, h2⟩
  · rw [h2, if_neg Bool.false_ne_true]
    exact Ev.bind hc (Ev.pos (by simpa using h1) (Ev.now _))
  · rw [h2, if_pos rfl]
    exact Ev.bind hc (Ev.neg (by decide) (Ev.now _))
theorem inR_eq (a lo hi : Int) : pileref1_in.f a lo hi = some (decide (lo ≤ a) && decide (a ≤ hi)) := by
  unfold pileref1_in.f
  by_cases h : lo ≤ a
  · rw [if_pos h]; simp [h]
  · rw [if_neg h]; simp [h]
theorem Span_eq (a lo hi : Int) : pileref1_SpanFault.f a lo hi = some (if lo ≤ a ∧ a ≤ hi then 0 else 1) := by
  unfold pileref1_SpanFault.f
  rw [inR_eq]
  simp only [Option.bind_some]
  by_cases h1 : lo ≤ a <;> by_cases h2 : a ≤ hi <;> simp [h1, h2]
theorem MarksFault_full (l : List Int) : Ev (fun k => pileref1_MarksFault.f k l) (marksF l) := by
  unfold pileref1_MarksFault.f marksF
  by_cases c0 : l.length = 0
  · rw [if_pos c0]; exact Ev.pos (by omega) (Ev.now _)
  rw [if_neg c0]
  refine Ev.neg (by omega) ?_
  by_cases c1 : l.length > 20000
  · rw [if_pos c1]; exact Ev.pos (by omega) (Ev.now _)
  rw [if_neg c1]
  refine Ev.neg (by omega) ?_
  by_cases c2 : l.length % 2 = 0
  · rw [if_pos c2]; exact Ev.pos (by rw [tmod_pos (by omega)]; omega) (Ev.now _)
  rw [if_neg c2]
  refine Ev.neg (by rw [tmod_pos (by omega)]; omega) ?_
  have hO : ∀ x, pileref1_SpanFault.f x 1 100000 = some (if okM x = true then 0 else 1) := fun x => by
    rw [Span_eq]; unfold okM; simp
  obtain ⟨v, hv, he⟩ := loop l (fun k i (_ : Unit) => pileref1_MarksFault.l0 k l i) (fun i _ => ∀ (j : Nat) (h : j < l.length), j < i → okM l[j] = true) (fun v => v = if l.all okM = true then 0 else 1)
    (fun i _ hi hI => by
      have h1 : (i : Int) < (l.length : Int) := by omega
      by_cases c : okM l[i] = true
      · refine .inl ⟨(), fun j h hj => ?_, fun v hv => Ev.succ ?_⟩
        · by_cases e : j = i
          · subst e; exact c
          · exact hI j h (by omega)
        · simp only [pileref1_MarksFault.l0, hO, rd_get l i hi, Option.bind_some, c, if_pos, wrap_succ (show i ≤ 1000000000000000 by omega)]
          exact Ev.pos h1 (Ev.pos (by omega) (Ev.pos h1 hv))
      · refine .inr ⟨1, ?_, Ev.succ ?_⟩
        · rw [if_neg]
          intro h
          rw [List.all_eq_true] at h
          exact c (h _ (List.getElem_mem hi))
        · simp only [pileref1_MarksFault.l0, hO, rd_get l i hi, Option.bind_some, if_neg c]
          exact Ev.pos h1 (Ev.pos (by omega) (Ev.pos h1 (Ev.neg (by decide) (Ev.now _)))))
    (fun _ hI => ⟨0, by
      rw [if_pos]
      rw [List.all_eq_true]
      intro x hx
      obtain ⟨j, hj, rfl⟩ := List.getElem_of_mem hx
      exact hI j hj hj, Ev.succ (by simp only [pileref1_MarksFault.l0]; exact Ev.neg (by omega) (Ev.now _))⟩) 0 () (by omega) (fun j h hj => by omega)
  rw [← hv]
  exact he
theorem marksF_ok {l : List Int} (h : marksF l = 0) : MK 100000 l ∧ l.length % 2 = 1 ∧ 1 ≤ l.length := by
  unfold marksF at h
  split at h
  · cases h
  · split at h
    · cases h
    · split at h
      · cases h
      · split at h
        · rename_i c
          rw [List.all_eq_true] at c
          exact ⟨⟨by omega, fun x hx => by have := c x hx; unfold okM at this; simpa using this⟩, by omega, by omega⟩
        · cases h
/-! the nearest units -/
theorem rnear_step (l : List Int) (a u : Int) (p : Nat) (hp : p < l.length) (hpa : l[p] = a) (hl : l.length ≤ 20000) (L : List Int) (i : Nat) (n x6 x7 : Int) (ha : 0 ≤ a ∧ a ≤ 1000000) (hu : 0 ≤ u ∧ u ≤ 100000) (hi : i < L.length) (hL : L.length ≤ 100) (hn : L[i] = n) (hn0 : 1 ≤ n ∧ n ≤ 7) (v : Int × Int)
    (h1 : i = 0 ∨ dst a (n * u) < x7 → Ev (fun k => pileref1_nearest.l0 k l (p : Int) u L n (dst a (n * u)) ((i + 1 : Nat) : Int)) v)
    (h2 : ¬ (i = 0 ∨ dst a (n * u) < x7) → Ev (fun k => pileref1_nearest.l0 k l (p : Int) u L x6 x7 ((i + 1 : Nat) : Int)) v) : Ev (fun k => pileref1_nearest.l0 k l (p : Int) u L x6 x7 (i : Int)) v := by
  have hr := rd_get L i hi
  have hrp : rd l (p : Int) = a := (rd_get l p hp).trans hpa
  have hnu : 0 ≤ n * u ∧ n * u ≤ 700000 := by
    obtain ⟨q0, q1⟩ := hn0
    have : n = 1 ∨ n = 2 ∨ n = 3 ∨ n = 4 ∨ n = 5 ∨ n = 6 ∨ n = 7 := by omega
    rcases this with rfl | rfl | rfl | rfl | rfl | rfl | rfl <;> omega
  have hd : mx (wrap64 (a - wrap64 (n * u))) (wrap64 (wrap64 (n * u) - a)) = dst a (n * u) := by
    rw [wrap_id (e := n * u) (by omega) (by omega), wrap_id (e := a - n * u) (by omega) (by omega), wrap_id (e := n * u - a) (by omega) (by omega)]
    rfl
  have hj : ∀ y z : Int, Ev (fun k => pileref1_nearest.l0 k l (p : Int) u L y z ((i + 1 : Nat) : Int)) v → Ev (fun k => pileref1_nearest.j10 k l (p : Int) u L (i : Int) y z) v := fun y z h => Ev.step (fun k => by simp only [pileref1_nearest.j10, wrap_succ (show i ≤ 1000000000000000 by omega)]) h
  have q1 : (p : Int) < (l.length : Int) := by omega
  have q2 : (i : Int) < (L.length : Int) := by omega
  refine Ev.succ ?_
  simp only [pileref1_nearest.l0, hr, hn, hrp, hd]
  refine Ev.pos q2 (Ev.pos (by omega) (Ev.pos q2 (Ev.pos (by omega) (Ev.pos q1 (Ev.pos (by omega) (Ev.pos q1 ?_))))))
  by_cases c : i = 0
  · exact Ev.pos (by omega) (hj _ _ (h1 (.inl c)))
  · refine Ev.neg (by omega) ?_
    by_cases c2 : dst a (n * u) < x7
    · exact Ev.pos c2 (hj _ _ (h1 (.inr c2)))
    · exact Ev.neg c2 (hj _ _ (h2 (by omega)))
theorem rnear_end (l : List Int) (p : Int) (u : Int) (L : List Int) (x6 x7 : Int) (i : Nat) (hi : i = L.length) : Ev (fun k => pileref1_nearest.l0 k l p u L x6 x7 (i : Int)) (x6, x7) := by
  refine Ev.succ ?_
  simp only [pileref1_nearest.l0]
  exact Ev.neg (by omega) (Ev.now _)
theorem rnear_ev (l : List Int) (u : Int) (hl : MK 100000 l) (hu : 1 ≤ u ∧ u ≤ 2000) (p : Nat) (hp : p < l.length) : Ev (fun k => pileref1_nearest.f k l (p : Int) u) (nearF l[p] u (decide (p % 2 = 0))) := by
  have hll := hl.1
  have ha := hl.2 _ (List.getElem_mem hp)
  generalize hpa : l[p] = a at ha ⊢
  have e1 : (1 : Int) * u = u := by omega
  have ha' : 0 ≤ a ∧ a ≤ 1000000 := by omega
  have hu' : 0 ≤ u ∧ u ≤ 100000 := by omega
  clear hl ha
  unfold pileref1_nearest.f
  by_cases c : p % 2 = 0
  · rw [show decide (p % 2 = 0) = true from decide_eq_true c]
    refine Ev.neg (by rw [tmod_pos (by omega)]; omega) (Ev.succ ?_)
    simp only [pileref1_nearest.j4]
    refine rnear_step l a u p hp hpa hll [1, 3] 0 1 0 0 ha' hu' (by decide) (by decide) rfl (by omega) _ (fun _ => ?_) (fun h => absurd (.inl rfl) h)
    refine rnear_step l a u p hp hpa hll [1, 3] 1 3 1 (dst a (1 * u)) ha' hu' (by decide) (by decide) rfl (by omega) _ (fun h => ?_) (fun h => ?_)
    · have e : nearF a u true = (3, dst a (3 * u)) := by unfold nearF; rw [e1] at h; rw [if_pos rfl, if_pos (by omega)]
      rw [e]
      exact rnear_end l p u [1, 3] _ _ 2 rfl
    · have e : nearF a u true = (1, dst a (1 * u)) := by unfold nearF; rw [e1] at h ⊢; rw [if_pos rfl, if_neg (by omega)]
      rw [e]
      exact rnear_end l p u [1, 3] _ _ 2 rfl
  · rw [show decide (p % 2 = 0) = false from decide_eq_false c]
    refine Ev.pos (by rw [tmod_pos (by omega)]; omega) (Ev.succ ?_)
    simp only [pileref1_nearest.j4]
    refine rnear_step l a u p hp hpa hll [1, 3, 7] 0 1 0 0 ha' hu' (by decide) (by decide) rfl (by omega) _ (fun _ => ?_) (fun h => absurd (.inl rfl) h)
    refine rnear_step l a u p hp hpa hll [1, 3, 7] 1 3 1 (dst a (1 * u)) ha' hu' (by decide) (by decide) rfl (by omega) _ (fun h => ?_) (fun h => ?_)
    · rw [e1] at h
      have h' : dst a (3 * u) < dst a u := by omega
      refine rnear_step l a u p hp hpa hll [1, 3, 7] 2 7 3 (dst a (3 * u)) ha' hu' (by decide) (by decide) rfl (by omega) _ (fun h2 => ?_) (fun h2 => ?_)
      · have e : nearF a u false = (7, dst a (7 * u)) := by unfold nearF; rw [if_neg Bool.false_ne_true, if_pos h', if_pos (by omega)]
        rw [e]
        exact rnear_end l p u [1, 3, 7] _ _ 3 rfl
      · have e : nearF a u false = (3, dst a (3 * u)) := by unfold nearF; rw [if_neg Bool.false_ne_true, if_pos h', if_neg (by omega), if_pos h']
        rw [e]
        exact rnear_end l p u [1, 3, 7] _ _ 3 rfl
    · rw [e1] at h ⊢
      have h' : ¬ dst a (3 * u) < dst a u := by omega
      refine rnear_step l a u p hp hpa hll [1, 3, 7] 2 7 1 (dst a u) ha' hu' (by decide) (by decide) rfl (by omega) _ (fun h2 => ?_) (fun h2 => ?_)
      · have e : nearF a u false = (7, dst a (7 * u)) := by unfold nearF; rw [if_neg Bool.false_ne_true, if_neg h', if_pos (by omega)]
        rw [e]
        exact rnear_end l p u [1, 3, 7] _ _ 3 rfl
      · have e : nearF a u false = (1, dst a u) := by unfold nearF; rw [if_neg Bool.false_ne_true, if_neg h', if_neg (by omega), if_neg h']
        rw [e]
        exact rnear_end l p u [1, 3, 7] _ _ 3 rfl
/-! words of codes -/
def prs (u : Int) : Nat → List (List (List UInt8)) → List (List UInt8) → List UInt8 → List Int → List (List (List UInt8))
  | _, d, cs, c, [] => d ++ [cs ++ [c]]
  | i, d, cs, c, a :: r =>
    if decide (i % 2 = 0) = true then prs u (i + 1) d cs (c ++ [if (nearF a u true).1 = 1 then 46 else 45]) r
    else if (nearF a u false).1 = 3 then prs u (i + 1) d (cs ++ [c]) [] r
    else if (nearF a u false).1 = 7 then prs u (i + 1) (d ++ [cs ++ [c]]) [] [] r
    else prs u (i + 1) d cs c r
def elB (c : List UInt8) : Prop := ∀ b ∈ c, b = 45 ∨ b = 46
def okW (w : List (List UInt8)) : Prop := w ≠ [] ∧ ∀ c ∈ w, elB c
theorem prs_ok (u : Int) : ∀ (l : List Int) (i : Nat) (d : List (List (List UInt8))) (cs : List (List UInt8)) (c : List UInt8), (∀ w ∈ d, okW w) → (∀ x ∈ cs, elB x) → elB c → prs u i d cs c l ≠ [] ∧ ∀ w ∈ prs u i d cs c l, okW w
  | [], i, d, cs, c, h1, h2, h3 => by
    refine ⟨by simp [prs], fun w hw => ?_⟩
    rcases List.mem_append.1 hw with hw | hw
    · exact h1 w hw
    · obtain rfl : w = cs ++ [c] := by simpa using hw
      refine ⟨by simp, fun x hx => ?_⟩
      rcases List.mem_append.1 hx with hx | hx
      · exact h2 x hx
      · obtain rfl : x = c := by simpa using hx
        exact h3
  | a :: r, i, d, cs, c, h1, h2, h3 => by
    have snoc : ∀ x ∈ cs ++ [c], elB x := fun x hx => by
      rcases List.mem_append.1 hx with hx | hx
      · exact h2 x hx
      · obtain rfl : x = c := by simpa using hx
        exact h3
    unfold prs
    split
    · refine prs_ok u r (i + 1) d cs _ h1 h2 (fun b hb => ?_)
      rcases List.mem_append.1 hb with hb | hb
      · exact h3 b hb
      · obtain rfl := List.mem_singleton.1 hb
        split
        · exact .inr rfl
        · exact .inl rfl
    · split
      · exact prs_ok u r (i + 1) d _ [] h1 snoc (fun b hb => by cases hb)
      · split
        · refine prs_ok u r (i + 1) _ [] [] (fun w hw => ?_) (fun x hx => by cases hx) (fun b hb => by cases hb)
          rcases List.mem_append.1 hw with hw | hw
          · exact h1 w hw
          · obtain rfl : w = cs ++ [c] := by simpa using hw
            exact ⟨by simp, snoc⟩
        · exact prs_ok u r (i + 1) d cs c h1 h2 h3
def cwj (cs : List (List UInt8)) : List UInt8 := Lib.join cs [32]
def encW (W : List (List (List UInt8))) : List UInt8 := Lib.join (W.map cwj) sep3
theorem cwj_mark (cs : List (List UInt8)) (c : List UInt8) (e : UInt8) : cwj (cs ++ [c ++ [e]]) = cwj (cs ++ [c]) ++ [e] := by
  unfold cwj
  rw [join_snoc, join_snoc]
  split
  · rfl
  · simp
theorem cwj_gap (cs : List (List UInt8)) (c : List UInt8) : cwj (cs ++ [c] ++ [[]]) = cwj (cs ++ [c]) ++ [32] := by
  unfold cwj
  rw [join_snoc (O := cs ++ [c]), if_neg (by simp)]
  simp
theorem encW_snoc (d : List (List (List UInt8))) (w : List (List UInt8)) : encW (d ++ [w]) = if d = [] then cwj w else encW d ++ sep3 ++ cwj w := by
  unfold encW
  rw [List.map_append, List.map_cons, List.map_nil, join_snoc]
  by_cases h : d = []
  · subst h; rfl
  · rw [if_neg h, if_neg (by simpa using h)]
theorem enc_app (d : List (List (List UInt8))) (w w' : List (List UInt8)) (s : List UInt8) (h : cwj w' = cwj w ++ s) : encW (d ++ [w']) = encW (d ++ [w]) ++ s := by
  rw [encW_snoc, encW_snoc, h]
  split
  · rfl
  · simp
theorem enc_word (d : List (List (List UInt8))) (w : List (List UInt8)) : encW (d ++ [w] ++ [[[]]]) = encW (d ++ [w]) ++ sep3 := by
  rw [encW_snoc (d ++ [w]), if_neg (by simp)]
  simp [cwj, Lib.join_one]
/-- What is read is what the words of codes say. -/
def outD (d : List (List (List UInt8))) (cs : List (List UInt8)) : List UInt8 := (if d = [] then [] else Lib.join (d.map catL) [32] ++ [32]) ++ catL cs
theorem catL_app (a b : List (List UInt8)) : catL (a ++ b) = catL a ++ catL b := by unfold catL; rw [List.flatMap_append]
theorem outD_end (d : List (List (List UInt8))) (cs : List (List UInt8)) (c : List UInt8) : outD d cs ++ signL c = Lib.join ((d ++ [cs ++ [c]]).map catL) [32] := by
  rw [List.map_append, List.map_cons, List.map_nil, join_snoc]
  unfold outD
  have e : catL (cs ++ [c]) = catL cs ++ signL c := by rw [catL_app]; simp [catL]
  rw [e]
  by_cases h : d = []
  · subst h; simp
  · rw [if_neg h, if_neg (by simpa using h)]
    simp
theorem rd_prs (u : Int) : ∀ (l : List Int) (i : Nat) (d : List (List (List UInt8))) (cs : List (List UInt8)) (c : List UInt8), rdS u i (outD d cs) c l = Lib.join ((prs u i d cs c l).map catL) [32]
  | [], i, d, cs, c => by rw [rdS, prs, outD_end]
  | a :: r, i, d, cs, c => by
    rw [rdS, prs]
    split
    · exact rd_prs u r (i + 1) d cs _
    · split
      · rw [← rd_prs u r (i + 1) d (cs ++ [c]) []]
        congr 1
        unfold outD
        rw [catL_app]
        simp [catL]
      · split
        · rw [← rd_prs u r (i + 1) (d ++ [cs ++ [c]]) [] []]
          congr 1
          rw [outD_end]
          unfold outD
          rw [if_neg (by simp)]
          simp [catL]
        · exact rd_prs u r (i + 1) d cs c
theorem readL_prs (u : Int) (l : List Int) : readL u l = Lib.join ((prs u 0 [] [] [] l).map catL) [32] := by
  rw [← rd_prs]
  rfl
theorem wString (v : Nat) (p q : List UInt8) (hp : p.length ≤ 1000000) (hq : q.length ≤ 1000) : strings_Builder_WriteString.f v (mk p) (mk q) = some (v + 1, mk (p ++ q)) := by
  unfold strings_Builder_WriteString.f
  rw [if_pos (by rw [mk_size, mk_size]; omega), mk_append]
theorem okW_47 {w : List (List UInt8)} (h : okW w) : (47 : UInt8) ∉ cwj w := fun h47 => by
  rcases join_mem [32] 47 w h47 with h1 | ⟨c, hc, h1⟩
  · simp at h1
  · rcases h.2 c hc 47 h1 with h2 | h2 <;> cases h2
theorem okW_words {w : List (List UInt8)} (h : okW w) : wordsOf (cwj w) = w := by
  obtain ⟨hne, hc⟩ := h
  cases w with
  | nil => exact absurd rfl hne
  | cons c r =>
    unfold cwj
    rw [join_sp, words_join c r (fun x hx h32 => by rcases hc x hx 32 h32 with h2 | h2 <;> cases h2)]
theorem wu_in (s : Int) (XB : List ByteArray) (n : Int) (i : Nat) (hi : i ≤ 100000) (Y : List (List UInt8)) (hY : Y.length ≤ 100000) (v : ByteArray × Int) (d : Nat) :
    ∀ (j : Nat) (A : List UInt8), j + d = Y.length → A.length + d ≤ 10000000 → Ev (fun k => pileref1_WithUnit.l1 k s (mk (A ++ catL (Y.drop j))) XB n ((i + 1 : Nat) : Int)) v →
      Ev (fun k => pileref1_WithUnit.l2 k s XB n (i : Int) (mk A) (Y.map mk) ((Y.map mk).length : Int) (j : Int)) v := by
  have hl : (Y.map mk).length = Y.length := by simp
  induction d with
  | zero =>
    intro j A hj _ h
    rw [List.drop_eq_nil_of_le (by omega)] at h
    refine Ev.succ ?_
    simp only [pileref1_WithUnit.l2, hl, wrap_succ (show i ≤ 1000000000000000 by omega)]
    refine Ev.neg (by omega) ?_
    simpa [catL] using h
  | succ d ih =>
    intro j A hj hA h
    have hjl : j < Y.length := by omega
    have hr : rdE eS (Y.map mk) (j : Int) = mk Y[j] := by rw [rdE_get eS _ j (by simpa using hjl)]; simp
    have hs := refSign (mk Y[j])
    rw [signL_mk] at hs
    rw [List.drop_eq_getElem_cons hjl, catL_cons, ← List.append_assoc] at h
    have h2 := signL_len Y[j]
    have ih2 := ih (j + 1) (A ++ signL Y[j]) (by omega) (by rw [List.length_append]; omega) h
    refine Ev.succ ?_
    simp only [pileref1_WithUnit.l2, hl, hr, wrap_succ (show j ≤ 1000000000000000 by omega)]
    refine Ev.pos (by omega) (Ev.pos (by omega) (Ev.pos (by omega) (Ev.bind hs (Ev.pos (by rw [mk_size, mk_size]; omega) ?_))))
    simp only [mk_append]
    simpa only [hl] using ih2
theorem wu_words (s : Int) (W : List (List (List UInt8))) (hW : W.length ≤ 60001) (hok : ∀ w ∈ W, okW w) (hlen : ∀ w ∈ W, w.length ≤ 30000 * 3 ∧ (cwj w).length ≤ 1000000) (hcat : (Lib.join (W.map catL) [32]).length ≤ 1000000) (d : Nat) :
    ∀ (i : Nat) (A : List UInt8), i + d = W.length → A = Lib.join ((W.take i).map catL) [32] → A.length ≤ 1000000 → Ev (fun k => pileref1_WithUnit.l1 k s (mk A) ((W.map cwj).map mk) (((W.map cwj).map mk).length : Int) (i : Int)) (mk (Lib.join (W.map catL) [32]), s) := by
  have hl : ((W.map cwj).map mk).length = W.length := by simp
  induction d with
  | zero =>
    intro i A hi hA _
    rw [List.take_of_length_le (by omega)] at hA
    refine Ev.succ ?_
    simp only [pileref1_WithUnit.l1, hl, hA]
    exact Ev.neg (by omega) (Ev.now _)
  | succ d ih =>
    intro i A hi hA hAl
    have hil : i < W.length := by omega
    have hr : rdE eS ((W.map cwj).map mk) (i : Int) = mk (cwj W[i]) := by rw [rdE_get eS _ i (by simpa using hil)]; simp
    have hw := hok _ (List.getElem_mem hil)
    have hwl := hlen _ (List.getElem_mem hil)
    have hsp : strings_Split.f (mk (cwj W[i])) (⟨#[32]⟩ : ByteArray) = some (W[i].map mk) := by rw [split_ev _ hwl.2, okW_words hw]
    have htk : (W.take (i + 1)).map catL = (W.take i).map catL ++ [catL W[i]] := by rw [List.take_succ_eq_append_getElem hil, List.map_append]; rfl
    have hA2 := join_snoc [32] ((W.take i).map catL) (catL W[i])
    rw [← htk, ← hA] at hA2
    have hbd : (Lib.join ((W.take (i + 1)).map catL) [32]).length ≤ 1000000 := by
      have hm : ∀ (O P : List (List UInt8)), (Lib.join O [32]).length ≤ (Lib.join (O ++ P) [32]).length := by
        intro O P
        induction P generalizing O with
        | nil => simp
        | cons x P ihP =>
          have h1 := ihP (O ++ [x])
          rw [List.append_assoc] at h1
          refine Nat.le_trans ?_ h1
          rw [join_snoc]
          split
          · rename_i e; rw [e, Lib.join_nil]; simp
          · simp
      have := hm ((W.take (i + 1)).map catL) ((W.drop (i + 1)).map catL)
      rw [← List.map_append, List.take_append_drop] at this
      omega
    have fin : ∀ B : List UInt8, Lib.join ((W.take (i + 1)).map catL) [32] = B ++ catL W[i] → Ev (fun k => pileref1_WithUnit.j23 k s ((W.map cwj).map mk) (((W.map cwj).map mk).length : Int) (i : Int) (mk B)) (mk (Lib.join (W.map catL) [32]), s) := fun B hB => by
      have hBl : B.length ≤ 1000000 := by rw [hB, List.length_append] at hbd; omega
      have e := ih (i + 1) (B ++ catL W[i]) (by omega) hB.symm (by rw [← hB]; exact hbd)
      refine Ev.succ ?_
      simp only [pileref1_WithUnit.j23, hr, hsp, Option.bind_some]
      exact wu_in s _ _ i (by omega) W[i] (by omega) _ W[i].length 0 B (by omega) (by omega) (by simpa using e)
    refine Ev.succ ?_
    simp only [pileref1_WithUnit.l1, hl]
    refine Ev.pos (by omega) (Ev.pos (by omega) (Ev.pos (by omega) ?_))
    by_cases c : i = 0
    · subst c
      refine Ev.neg (by omega) ?_
      have e0 : A = [] := by rw [hA]; rfl
      have := fin A (by rw [hA2, if_pos (by simp), e0]; rfl)
      simpa only [hl] using this
    · refine Ev.pos (by omega) (Ev.pos (by rw [mk_size, show (⟨#[32]⟩ : ByteArray).size = 1 from rfl]; omega) ?_)
      have e32 : mk A ++ (⟨#[32]⟩ : ByteArray) = mk (A ++ [32]) := mk_append A [32]
      simp only [e32]
      have hne : (W.take i).map catL ≠ [] := by
        intro e
        have := congrArg List.length e
        rw [List.length_map, List.length_take, List.length_nil] at this
        omega
      have := fin (A ++ [32]) (by rw [hA2, if_neg hne])
      simpa only [hl] using this
/-! what is written of marks and gaps -/
theorem encW_nil : encW ([] ++ [[] ++ [[]]]) = [] := rfl
theorem wu_run (l : List Int) (u : Int) (hl : MK 100000 l) (hu : 1 ≤ u ∧ u ≤ 2000) (v : ByteArray × Int)
    (hk : ∀ (n : Nat) (W : List (List (List UInt8))) (s : Int), W = prs u 0 [] [] [] l → s = offL u 0 l → (encW W).length ≤ 3 * l.length → Ev (fun k => pileref1_WithUnit.l0 k l u s (l.length : Int) n (mk (encW W))) v) (d : Nat) :
    ∀ (i : Nat) (n : Nat) (dn : List (List (List UInt8))) (cs : List (List UInt8)) (c : List UInt8) (s : Int), i + d = l.length → prs u i dn cs c (l.drop i) = prs u 0 [] [] [] l → s + offL u i (l.drop i) = offL u 0 l → 0 ≤ s ∧ s ≤ 100000 * (i : Int) → (encW (dn ++ [cs ++ [c]])).length ≤ 3 * i →
      Ev (fun k => pileref1_WithUnit.l0 k l u s (i : Int) n (mk (encW (dn ++ [cs ++ [c]])))) v := by
  have hll := hl.1
  induction d with
  | zero =>
    intro i n dn cs c s hi h1 h2 h3 h4
    obtain rfl : i = l.length := by omega
    rw [List.drop_length] at h1 h2
    rw [prs] at h1
    rw [offL, Int.add_zero] at h2
    exact hk n _ s h1 h2 h4
  | succ d ih =>
    intro i n dn cs c s hi h1 h2 h3 h4
    have hil : i < l.length := by omega
    have ha := hl.2 _ (List.getElem_mem hil)
    have hn := rnear_ev l u hl hu i hil
    rw [List.drop_eq_getElem_cons hil] at h1 h2
    generalize l[i] = a at ha hn h1 h2
    have hb := offA_bd (a := a) (u := u) (m := decide (i % 2 = 0)) (by omega) (by omega)
    rw [offL] at h2
    have hw : wrap64 (s + (nearF a u (decide (i % 2 = 0))).2) = s + offA a u (decide (i % 2 = 0)) := by
      show wrap64 (s + offA a u (decide (i % 2 = 0))) = _
      rw [wrap_id (by omega) (by omega)]
    have hj : ∀ n' dn' cs' c', prs u (i + 1) dn' cs' c' (l.drop (i + 1)) = prs u 0 [] [] [] l → (encW (dn' ++ [cs' ++ [c']])).length ≤ 3 * (i + 1) → Ev (fun k => pileref1_WithUnit.j16 k l u (i : Int) (s + offA a u (decide (i % 2 = 0))) n' (mk (encW (dn' ++ [cs' ++ [c']])))) v := fun n' dn' cs' c' q1 q2 =>
      Ev.step (fun k => by simp only [pileref1_WithUnit.j16, wrap_succ (show i ≤ 1000000000000000 by omega)]) (ih (i + 1) n' dn' cs' c' (s + offA a u (decide (i % 2 = 0))) (by omega) q1 (by omega) (by omega) q2)
    generalize hE : encW (dn ++ [cs ++ [c]]) = E at h4 ⊢
    have hws : ∀ q : List UInt8, q.length ≤ 1000 → strings_Builder_WriteString.f n (mk E) (mk q) = some (n + 1, mk (E ++ q)) := fun q hq => wString n E q (by omega) hq
    refine Ev.succ ?_
    simp only [pileref1_WithUnit.l0]
    refine Ev.pos (by omega) (Ev.bind hn ?_)
    rw [prs] at h1
    by_cases c0 : i % 2 = 0
    · have hd : decide (i % 2 = 0) = true := decide_eq_true c0
      have ht : Int.tmod (i : Int) 2 = 0 := by rw [tmod_pos (by omega)]; omega
      rw [if_pos hd] at h1
      simp only [hd] at hw hj ⊢
      refine Ev.pos ht ?_
      by_cases c1 : (nearF a u true).1 = 1
      · rw [if_pos c1] at h1
        have e1 := hws [46] (by simp)
        simp only [if_pos c1]
        rw [show (⟨#[46]⟩ : ByteArray) = mk [46] from rfl, e1]
        simp only [Option.bind_some, hw]
        have e2 : E ++ [46] = encW (dn ++ [cs ++ [c ++ [46]]]) := by rw [← hE]; exact (enc_app dn _ _ _ (cwj_mark cs c 46)).symm
        rw [e2]
        exact hj _ dn cs _ h1 (by rw [← e2]; simp; omega)
      · rw [if_neg c1] at h1
        have e1 := hws [45] (by simp)
        simp only [if_neg c1, if_pos ht]
        rw [show (⟨#[45]⟩ : ByteArray) = mk [45] from rfl, e1]
        simp only [Option.bind_some, hw]
        have e2 : E ++ [45] = encW (dn ++ [cs ++ [c ++ [45]]]) := by rw [← hE]; exact (enc_app dn _ _ _ (cwj_mark cs c 45)).symm
        rw [e2]
        exact hj _ dn cs _ h1 (by rw [← e2]; simp; omega)
    · have hd : decide (i % 2 = 0) = false := decide_eq_false c0
      have ht : ¬ Int.tmod (i : Int) 2 = 0 := by rw [tmod_pos (by omega)]; omega
      rw [hd, if_neg Bool.false_ne_true] at h1
      simp only [hd] at hw hj ⊢
      refine Ev.neg ht ?_
      simp only [if_neg ht]
      by_cases c3 : (nearF a u false).1 = 3
      · rw [if_pos c3] at h1
        have e1 := hws [32] (by simp)
        simp only [if_pos c3]
        rw [show (⟨#[32]⟩ : ByteArray) = mk [32] from rfl, e1]
        simp only [Option.bind_some, hw]
        have e2 : E ++ [32] = encW (dn ++ [cs ++ [c] ++ [[]]]) := by rw [← hE]; exact (enc_app dn _ _ _ (cwj_gap cs c)).symm
        rw [e2]
        exact hj _ dn (cs ++ [c]) [] h1 (by rw [← e2]; simp; omega)
      · rw [if_neg c3] at h1
        simp only [if_neg c3]
        by_cases c7 : (nearF a u false).1 = 7
        · rw [if_pos c7] at h1
          have e1 := hws sep3 (by simp [sep3])
          simp only [if_pos c7]
          rw [show (⟨#[32, 47, 32]⟩ : ByteArray) = mk sep3 from rfl, e1]
          simp only [Option.bind_some, hw]
          have e2 : E ++ sep3 = encW (dn ++ [cs ++ [c]] ++ [[] ++ [[]]]) := by rw [← hE]; exact (enc_word dn (cs ++ [c])).symm
          rw [e2]
          exact hj _ (dn ++ [cs ++ [c]]) [] [] h1 (by rw [← e2]; simp [sep3]; omega)
        · rw [if_neg c7] at h1
          simp only [if_neg c7, hw]
          rw [← hE]
          exact hj _ dn cs c h1 (by rw [hE]; omega)
theorem join_ge (sep : List UInt8) : ∀ (O : List (List UInt8)) (w : List UInt8), w ∈ O → w.length ≤ (Lib.join O sep).length
  | a :: r, w, h => by
    rw [Lib.join_cons, List.length_append]
    rcases List.mem_cons.1 h with rfl | h
    · omega
    · have : ∀ r : List (List UInt8), w ∈ r → w.length ≤ (Lib.joinTail sep r).length := by
        intro r
        induction r with
        | nil => intro h; cases h
        | cons b r ih =>
          intro h
          have e : Lib.joinTail sep (b :: r) = sep ++ b ++ Lib.joinTail sep r := by simp [Lib.joinTail]
          rw [e, List.length_append, List.length_append]
          rcases List.mem_cons.1 h with rfl | h
          · omega
          · have := ih h; omega
      have := this r h
      omega
theorem join_cnt (sep : List UInt8) (hs : 1 ≤ sep.length) : ∀ (O : List (List UInt8)), O.length ≤ (Lib.join O sep).length + 1
  | [] => by simp
  | a :: r => by
    rw [Lib.join_cons, List.length_append, List.length_cons]
    have : ∀ r : List (List UInt8), r.length ≤ (Lib.joinTail sep r).length := by
      intro r
      induction r with
      | nil => simp
      | cons b r ih =>
        have e : Lib.joinTail sep (b :: r) = sep ++ b ++ Lib.joinTail sep r := by simp [Lib.joinTail]
        rw [e, List.length_append, List.length_append, List.length_cons]
        omega
    have := this r
    omega
theorem WithUnit_ev (l : List Int) (u : Int) (hl : MK 100000 l) (hu : 1 ≤ u ∧ u ≤ 2000) : Ev (fun k => pileref1_WithUnit.f k l u) (mk (readL u l), offL u 0 l) := by
  have hll := hl.1
  have hrl := rdS_len u l 0 [] []
  have hread := readL_prs u l
  obtain ⟨p1, p2⟩ := prs_ok u l 0 [] [] [] (fun w hw => by cases hw) (fun x hx => by cases hx) (fun b hb => by cases hb)
  have hrl2 : (readL u l).length ≤ 50000 := by unfold readL; simp only [List.length_nil] at hrl; omega
  rw [hread] at hrl2 ⊢
  have := wu_run l u hl hu (mk (Lib.join ((prs u 0 [] [] [] l).map catL) [32]), offL u 0 l) (fun n W s hW hs hlen => by
    rw [← hW] at p1 p2 hrl2 ⊢
    subst hs
    have hcnt := join_cnt sep3 (by decide) (W.map cwj)
    rw [List.length_map] at hcnt
    have hwl : ∀ w ∈ W, w.length ≤ 30000 * 3 ∧ (cwj w).length ≤ 1000000 := fun w hw => by
      have h1 := join_ge sep3 (W.map cwj) (cwj w) (List.mem_map.2 ⟨w, hw, rfl⟩)
      have h2 := join_cnt [32] (by simp) w
      have h3 : (cwj w).length ≤ (encW W).length := h1
      have h4 : w.length ≤ (cwj w).length + 1 := h2
      omega
    have hWl : W.length ≤ 60001 := by
      have : W.length ≤ (encW W).length + 1 := hcnt
      omega
    have hsp : strings_Split.f (mk (encW W)) (⟨#[32, 47, 32]⟩ : ByteArray) = some ((W.map cwj).map mk) := by
      obtain ⟨w, q, hWq⟩ : ∃ w q, W = w :: q := by
        cases W with
        | nil => exact absurd rfl p1
        | cons w q => exact ⟨w, q, rfl⟩
      have h47 : ∀ x ∈ cwj w :: q.map cwj, (47 : UInt8) ∉ x := fun x hx => by
        have : ∃ y ∈ W, x = cwj y := by
          rw [hWq]
          rcases List.mem_cons.1 hx with rfl | hx
          · exact ⟨w, by simp, rfl⟩
          · obtain ⟨y, hy, rfl⟩ := List.mem_map.1 hx
            exact ⟨y, by simp [hy], rfl⟩
        obtain ⟨y, hy, rfl⟩ := this
        exact okW_47 (p2 y hy)
      obtain ⟨a1, a2⟩ := split3_all (cwj w) (q.map cwj) h47
      have hE : Lib.join (cwj w :: q.map cwj) sep3 = encW W := by rw [hWq]; rfl
      rw [hE] at a1 a2
      have e0 : (⟨#[32, 47, 32]⟩ : ByteArray) = mk sep3 := rfl
      unfold strings_Split.f
      rw [e0, if_pos ⟨by rw [mk_size]; omega, by decide⟩, a1, a2, hWq]
      rfl
    refine Ev.succ ?_
    simp only [pileref1_WithUnit.l0, strings_Builder_String.f, hsp, Option.bind_some]
    exact Ev.neg (by omega) (wu_words (offL u 0 l) W hWl p2 hwl (by omega) W.length 0 [] (by omega) rfl (by simp))) l.length 0 0 [] [] [] 0 (by omega) (by rw [List.drop_zero]) (by rw [List.drop_zero]; omega) (by omega) (by rw [encW_nil]; simp)
  unfold pileref1_WithUnit.f
  exact this
end Go.EV.Pure
namespace Go.EV.Pure
open Go Go.EV Go.RowKit
set_option linter.unusedSimpArgs false
set_option linter.unusedVariables false
set_option maxRecDepth 100000
/-! Marks and gaps without those that are shorter: the program's way and the document's. -/
theorem UnevenOf_both (l : List Int) (u : Int) (hl : MK 100000 l) (ho : l.length % 2 = 1) (hu : 1 ≤ u ∧ u ≤ 2000) : ∃ o : List Int, Ev (fun k => key_Uneven.f k l u) (o, 0) ∧ Ev (fun k => pileref1_UnevenOf.f k l u) o ∧ o.length ≤ l.length := by
  have hll := hl.1
  have run : ∀ (d i : Nat) (o : List Int), i + d = l.length → o.length ≤ i → ∃ o' : List Int, Ev (fun k => key_Uneven.l0 k l u (i : Int) o) (o', 0) ∧ Ev (fun k => pileref1_UnevenOf.l0 k l u (i : Int) o) o' ∧ o'.length ≤ l.length := by
    intro d
    induction d with
    | zero =>
      intro i o hi h
      refine ⟨o, Ev.succ ?_, Ev.succ ?_, by omega⟩
      · simp only [key_Uneven.l0]
        exact Ev.neg (by omega) (Ev.now _)
      · simp only [pileref1_UnevenOf.l0]
        exact Ev.neg (by omega) (Ev.now _)
    | succ d ih =>
      intro i o hi h
      have hil : i < l.length := by omega
      have ha := hl.2 _ (List.getElem_mem hil)
      have hn := nearest_ev l[i] u (decide (i % 2 = 0)) (by omega) (by omega)
      have hn2 := rnear_ev l u hl hu i hil
      have next : ∀ o2 : List Int, o2.length ≤ i + 1 → ∃ o' : List Int, Ev (fun k => key_Uneven.j11 k l u (i : Int) o2) (o', 0) ∧ Ev (fun k => pileref1_UnevenOf.j8 k l u (i : Int) o2) o' ∧ o'.length ≤ l.length := fun o2 h2 => by
        obtain ⟨o', e, e2, q⟩ := ih (i + 1) o2 (by omega) h2
        exact ⟨o', Ev.step (fun k => by simp only [key_Uneven.j11, wrap_succ (show i ≤ 1000000000000000 by omega)]) e, Ev.step (fun k => by simp only [pileref1_UnevenOf.j8, wrap_succ (show i ≤ 1000000000000000 by omega)]) e2, q⟩
      by_cases c : wrap64 (2 * (nearF l[i] u (decide (i % 2 = 0))).2) > u
      · obtain ⟨o', e, e2, q⟩ := next (o ++ [(i : Int)]) (by simp; omega)
        refine ⟨o', Ev.succ ?_, Ev.succ ?_, q⟩
        · simp only [key_Uneven.l0, rd_get l i hil, isMark_ev, Option.bind_some]
          exact Ev.pos (by omega) (Ev.pos (by omega) (Ev.pos (by omega) (Ev.bind hn (Ev.pos c (Ev.pos (by omega) e)))))
        · simp only [pileref1_UnevenOf.l0]
          exact Ev.pos (by omega) (Ev.bind hn2 (Ev.pos c (Ev.pos (by omega) e2)))
      · obtain ⟨o', e, e2, q⟩ := next o (by omega)
        refine ⟨o', Ev.succ ?_, Ev.succ ?_, q⟩
        · simp only [key_Uneven.l0, rd_get l i hil, isMark_ev, Option.bind_some]
          exact Ev.pos (by omega) (Ev.pos (by omega) (Ev.pos (by omega) (Ev.bind hn (Ev.neg c e))))
        · simp only [pileref1_UnevenOf.l0]
          exact Ev.pos (by omega) (Ev.bind hn2 (Ev.neg c e2))
  obtain ⟨o', e, e2, q⟩ := run l.length 0 [] (by omega) (by simp)
  refine ⟨o', ?_, e2, q⟩
  unfold key_Uneven.f
  exact Ev.bind (unitOK l u hl ho hu) (Ev.pos rfl e)
/-! the unit that is heard -/
theorem heard_sum (l : List Int) (u a b : Int) (hl : MK 100000 l) (hu : 1 ≤ u ∧ u ≤ 2000) (v : ByteArray × Int × Int × Bool) (d : Nat) :
    ∀ (i : Nat) (s : Int), i + d = l.length → 0 ≤ s ∧ s ≤ 100000 * (i : Int) → s + offL u i (l.drop i) = offL u 0 l → Ev (fun k => pileref1_HeardOf.l1 k l u a b (offL u 0 l) (l.length : Int)) v → Ev (fun k => pileref1_HeardOf.l1 k l u a b s (i : Int)) v := by
  have hll := hl.1
  induction d with
  | zero =>
    intro i s hi hs h2 h
    obtain rfl : i = l.length := by omega
    rw [List.drop_length, offL, Int.add_zero] at h2
    rw [h2]
    exact h
  | succ d ih =>
    intro i s hi hs h2 h
    have hil : i < l.length := by omega
    have ha := hl.2 _ (List.getElem_mem hil)
    have hn := rnear_ev l u hl hu i hil
    rw [List.drop_eq_getElem_cons hil, offL] at h2
    generalize l[i] = a' at ha hn h2
    have hb := offA_bd (a := a') (u := u) (m := decide (i % 2 = 0)) (by omega) (by omega)
    have hw : wrap64 (s + (nearF a' u (decide (i % 2 = 0))).2) = s + offA a' u (decide (i % 2 = 0)) := by
      show wrap64 (s + offA a' u (decide (i % 2 = 0))) = _
      rw [wrap_id (by omega) (by omega)]
    refine Ev.succ ?_
    simp only [pileref1_HeardOf.l1, wrap_succ (show i ≤ 1000000000000000 by omega)]
    refine Ev.pos (by omega) (Ev.bind hn ?_)
    simp only [hw]
    exact ih (i + 1) (s + offA a' u (decide (i % 2 = 0))) (by omega) (by omega) (by omega) h
/-- The best unit of those above n. -/
def BestA (l : List Int) (n b : Int) : Prop := n < b ∧ b ≤ 2000 ∧ ∀ u, n < u → u ≤ 2000 → offL b 0 l ≤ offL u 0 l ∧ (offL b 0 l = offL u 0 l → u ≤ b)
def heardR (l : List Int) (b : Int) : ByteArray × Int × Int × Bool := if ((mk (readL b l)).size : Int) > 500 then (eB, 0, 0, false) else (mk (readL b l), b, offL b 0 l, true)
theorem heard_run (l : List Int) (hl : MK 100000 l) (d : Nat) : ∀ (b : Int), d < 2000 → BestA l (d : Int) b → ∃ c, Best l 2000 c ∧ Ev (fun k => pileref1_HeardOf.l0 k l (d : Int) b (offL b 0 l)) (heardR l c) := by
  induction d with
  | zero =>
    intro b _ hb
    refine ⟨b, ⟨by have := hb.1; omega, hb.2.1, fun u u1 u2 => hb.2.2 u (by omega) u2⟩, Ev.succ ?_⟩
    simp only [pileref1_HeardOf.l0]
    refine Ev.neg (by omega) (Ev.bind (WithUnit_ev l b hl ⟨by have := hb.1; omega, hb.2.1⟩) ?_)
    unfold heardR
    exact Ev.ite (fun c => by rw [if_pos c]; exact Ev.now _) (fun c => by rw [if_neg c]; exact Ev.now _)
  | succ d ih =>
    intro b hd hb
    have hw : wrap64 (((d + 1 : Nat) : Int) - 1) = (d : Int) := by rw [wrap_id (by omega) (by omega)]; omega
    have hb1 := hb.1
    have hb2 := hb.2.1
    have hj : ∀ c : Int, BestA l (d : Int) c → ∃ c', Best l 2000 c' ∧ Ev (fun k => pileref1_HeardOf.j4 k l ((d + 1 : Nat) : Int) c (offL c 0 l)) (heardR l c') := fun c hc => by
      obtain ⟨c', h3, h4⟩ := ih c (by omega) hc
      exact ⟨c', h3, Ev.step (fun k => by simp only [pileref1_HeardOf.j4, hw]) h4⟩
    have hsum : ∀ v, Ev (fun k => pileref1_HeardOf.l1 k l ((d + 1 : Nat) : Int) b (offL b 0 l) (offL ((d + 1 : Nat) : Int) 0 l) (l.length : Int)) v → Ev (fun k => pileref1_HeardOf.l0 k l ((d + 1 : Nat) : Int) b (offL b 0 l)) v := fun v hv => by
      refine Ev.succ ?_
      simp only [pileref1_HeardOf.l0]
      exact Ev.pos (by omega) (heard_sum l ((d + 1 : Nat) : Int) b (offL b 0 l) hl (by omega) v l.length 0 0 (by omega) (by omega) (by rw [List.drop_zero]; omega) hv)
    by_cases c : offL ((d + 1 : Nat) : Int) 0 l < offL b 0 l
    · obtain ⟨c', h3, h4⟩ := hj ((d + 1 : Nat) : Int) ⟨by omega, by omega, fun x x1 x2 => by
        by_cases e : x = ((d + 1 : Nat) : Int)
        · subst e; exact ⟨Int.le_refl _, fun _ => Int.le_refl _⟩
        · have := hb.2.2 x (by omega) x2
          exact ⟨by omega, fun e2 => by omega⟩⟩
      refine ⟨c', h3, hsum _ (Ev.succ ?_)⟩
      simp only [pileref1_HeardOf.l1]
      exact Ev.neg (by omega) (Ev.neg (by omega) (Ev.pos c h4))
    · obtain ⟨c', h3, h4⟩ := hj b ⟨by omega, hb2, fun x x1 x2 => by
        by_cases e : x = ((d + 1 : Nat) : Int)
        · subst e; exact ⟨by omega, fun _ => by omega⟩
        · exact hb.2.2 x (by omega) x2⟩
      refine ⟨c', h3, hsum _ (Ev.succ ?_)⟩
      simp only [pileref1_HeardOf.l1]
      exact Ev.neg (by omega) (Ev.neg (by omega) (Ev.neg c h4))
theorem HeardOf_ev (l : List Int) (hl : MK 100000 l) : ∃ c, Best l 2000 c ∧ Ev (fun k => pileref1_HeardOf.f k l) (heardR l c) := by
  obtain ⟨c, h1, h2⟩ := heard_run l hl 1999 2000 (by omega) ⟨by omega, by omega, fun u u1 u2 => by obtain rfl : u = 2000 := (by omega); exact ⟨Int.le_refl _, fun _ => Int.le_refl _⟩⟩
  refine ⟨c, h1, ?_⟩
  unfold pileref1_HeardOf.f
  refine Ev.succ ?_
  simp only [pileref1_HeardOf.l0]
  refine Ev.pos (by omega) (heard_sum l 2000 0 0 hl (by omega) _ l.length 0 0 (by omega) (by omega) (by rw [List.drop_zero]; omega) (Ev.succ ?_))
  simp only [pileref1_HeardOf.l1]
  refine Ev.neg (by omega) (Ev.pos (by first | trivial | rfl) (Ev.succ ?_))
  simp only [pileref1_HeardOf.j4]
  rw [wrap_id (e := 2000 - 1) (by omega) (by omega)]
  exact h2
/-! gaps that are shorter -/
def addLast (R : List Int) (v : Int) : List Int := R.set (R.length - 1) (R.getD (R.length - 1) 0 + v)
theorem addLast_len (R : List Int) (v : Int) : (addLast R v).length = R.length := by unfold addLast; rw [List.length_set]
/-- gaps: each with the mark behind it -/
def gapsF (least : Int) : List Int → List Int → List Int
  | R, g :: m :: r => if g < least then gapsF least (addLast R (g + m)) r else gapsF least (R ++ [g, m]) r
  | R, _ => R
/-- marks: each with the gap behind it -/
def marksG (least : Int) : List Int → List Int → List Int
  | R, m :: g :: r => if m < least ∧ R ≠ [] then marksG least (addLast R (m + g)) r else marksG least (R ++ [m, g]) r
  | R, [m] => R ++ [m]
  | R, [] => R
theorem sum_app2 (a b : List Int) : (a ++ b).sum = a.sum + b.sum := by
  induction a with
  | nil => simp
  | cons x a ih => simp only [List.cons_append, List.sum_cons, ih]; omega
theorem nonneg_sum : ∀ {R : List Int}, (∀ x ∈ R, 0 ≤ x) → 0 ≤ R.sum
  | [], _ => by simp
  | a :: r, h => by
    have h1 := h a (by simp)
    have h2 := nonneg_sum (R := r) (fun x hx => h x (by simp [hx]))
    rw [List.sum_cons]; omega
theorem mem_le_sum : ∀ {R : List Int}, (∀ x ∈ R, 0 ≤ x) → ∀ x ∈ R, x ≤ R.sum
  | a :: r, h, x, hx => by
    have h1 := h a (by simp)
    have h3 := nonneg_sum (R := r) (fun x hx => h x (by simp [hx]))
    rw [List.sum_cons]
    rcases List.mem_cons.1 hx with rfl | hx
    · omega
    · have := mem_le_sum (R := r) (fun x hx => h x (by simp [hx])) x hx
      omega
theorem set_sum (R : List Int) (i : Nat) (v : Int) (h : i < R.length) : (R.set i v).sum = R.sum - R.getD i 0 + v := by
  induction R generalizing i with
  | nil => simp at h
  | cons a R ih =>
    cases i with
    | zero => simp; omega
    | succ i =>
      have := ih i (by simpa using h)
      simp only [List.set_cons_succ, List.sum_cons, this, List.getD_cons_succ]
      omega
theorem addLast_sum (R : List Int) (v : Int) (h : R ≠ []) : (addLast R v).sum = R.sum + v := by
  have hl : 1 ≤ R.length := List.length_pos_iff.2 h
  unfold addLast
  rw [set_sum R _ _ (by omega)]
  omega
theorem last_mem (R : List Int) (h : R ≠ []) : R.getD (R.length - 1) 0 ∈ R := by
  have hl : 1 ≤ R.length := List.length_pos_iff.2 h
  have : R.getD (R.length - 1) 0 = R[R.length - 1]'(by omega) := by simp [List.getD, List.getElem?_eq_getElem (show R.length - 1 < R.length by omega)]
  rw [this]
  exact List.getElem_mem _
theorem addLast_nn (R : List Int) (v : Int) (h : R ≠ []) (hR : ∀ x ∈ R, 0 ≤ x) (hv : 0 ≤ v) : ∀ x ∈ addLast R v, 0 ≤ x := by
  intro x hx
  have h1 := hR _ (last_mem R h)
  rcases List.mem_or_eq_of_mem_set hx with hx | rfl
  · exact hR x hx
  · omega
theorem addLast_ne (R : List Int) (v : Int) (h : R ≠ []) : addLast R v ≠ [] := by
  intro e
  have := congrArg List.length e
  rw [addLast_len] at this
  exact h (List.eq_nil_of_length_eq_zero this)
theorem drop2 (l : List Int) (i : Nat) (h : i + 1 < l.length) : l.drop i = l[i] :: l[i + 1] :: l.drop (i + 2) := by
  rw [List.drop_eq_getElem_cons (show i < l.length by omega), List.drop_eq_getElem_cons h]
theorem rd_last (R : List Int) : rd R ((R.length - 1 : Nat) : Int) = R.getD (R.length - 1) 0 := by unfold rd; rw [Int.toNat_natCast]
theorem closed_run (l : List Int) (least : Int) (hl : l.length ≤ 20000) (ho : l.length % 2 = 1) (hp : ∀ x ∈ l, 0 ≤ x) (hs : l.sum ≤ 3000000000) (d : Nat) :
    ∀ (i : Nat) (R : List Int), i + 2 * d = l.length → 1 ≤ i → R ≠ [] → R.length ≤ i → (∀ x ∈ R, 0 ≤ x) → R.sum + (l.drop i).sum ≤ 3000000000 →
      Ev (fun k => key_closed.l0 k l least (i : Int) R) (gapsF least R (l.drop i)) ∧ Ev (fun k => pileref1_merged.l0 k l 1 least (i : Int) R) (gapsF least R (l.drop i)) := by
  induction d with
  | zero =>
    intro i R hi h1 h2 h3 h4 h5
    rw [List.drop_eq_nil_of_le (by omega)]
    refine ⟨Ev.succ ?_, Ev.succ ?_⟩
    · simp only [key_closed.l0, gapsF]
      exact Ev.neg (by omega) (Ev.now _)
    · simp only [pileref1_merged.l0, gapsF]
      exact Ev.neg (by omega) (Ev.now _)
  | succ d ih =>
    intro i R hi h1 h2 h3 h4 h5
    have hi1 : i + 1 < l.length := by omega
    have hi0 : i < l.length := by omega
    have r0 := rd_get l i hi0
    have r1 := rd_get l (i + 1) hi1
    have p0 := hp _ (List.getElem_mem hi0)
    have p1 := hp _ (List.getElem_mem hi1)
    rw [drop2 l i hi1] at h5 ⊢
    simp only [List.sum_cons] at h5
    have pd := nonneg_sum (R := l.drop (i + 2)) (fun x hx => hp x (List.mem_of_mem_drop hx))
    have pR := nonneg_sum h4
    have pl := mem_le_sum h4 _ (last_mem R h2)
    have pl0 := h4 _ (last_mem R h2)
    have hRl : 1 ≤ R.length := List.length_pos_iff.2 h2
    have w1 : wrap64 ((i : Int) + 1) = ((i + 1 : Nat) : Int) := wrap_succ (by omega)
    have w2 : wrap64 ((i : Int) + 2) = ((i + 2 : Nat) : Int) := by rw [wrap_id (by omega) (by omega)]; omega
    have w3 : wrap64 (((i + 1 : Nat) : Int) + 1) = ((i + 2 : Nat) : Int) := by rw [wrap_id (by omega) (by omega)]; omega
    have wn : wrap64 ((R.length : Int) - 1) = ((R.length - 1 : Nat) : Int) := by rw [wrap_id (by omega) (by omega)]; omega
    have tm : Int.tmod (i : Int) 2 = 1 := by rw [tmod_pos (by omega)]; omega
    have tm2 : ¬ Int.tmod ((i + 1 : Nat) : Int) 2 = 1 := by rw [tmod_pos (by omega)]; omega
    have wa : wrap64 (l[i] + l[i + 1]) = l[i] + l[i + 1] := wrap_id (by omega) (by omega)
    have wb : wrap64 (R.getD (R.length - 1) 0 + (l[i] + l[i + 1])) = R.getD (R.length - 1) 0 + (l[i] + l[i + 1]) := wrap_id (by omega) (by omega)
    have hadd : R.set (R.length - 1) (R.getD (R.length - 1) 0 + (l[i] + l[i + 1])) = addLast R (l[i] + l[i + 1]) := rfl
    have iL : (i : Int) < (l.length : Int) := by omega
    have iL1 : ((i + 1 : Nat) : Int) < (l.length : Int) := by omega
    have rL : ((R.length - 1 : Nat) : Int) < (R.length : Int) := by omega
    generalize l[i] = g at *
    generalize l[i + 1] = m at *
    by_cases c : g < least
    · obtain ⟨e1, e2⟩ := ih (i + 2) (addLast R (g + m)) (by omega) (by omega) (addLast_ne R _ h2) (by rw [addLast_len]; omega) (addLast_nn R _ h2 h4 (by omega)) (by rw [addLast_sum R _ h2]; omega)
      have eg : gapsF least R (g :: m :: l.drop (i + 2)) = gapsF least (addLast R (g + m)) (l.drop (i + 2)) := by rw [gapsF, if_pos c]
      rw [eg]
      refine ⟨Ev.succ ?_, Ev.succ ?_⟩
      · simp only [key_closed.l0, r0, r1, w1, wn, rd_last, wa, wb, Int.toNat_natCast, hadd]
        refine Ev.pos iL (Ev.pos (by omega) (Ev.pos iL (Ev.pos c (Ev.pos (by omega) (Ev.pos rL (Ev.pos (by omega) (Ev.pos iL (Ev.pos (by omega) (Ev.pos iL1 (Ev.pos (by omega) (Ev.pos rL (Ev.succ ?_))))))))))))
        simp only [key_closed.j4, w2]
        exact e1
      · simp only [pileref1_merged.l0, r0, r1, w1, wn, rd_last, wa, wb, Int.toNat_natCast, hadd]
        refine Ev.pos iL (Ev.pos tm (Ev.pos (by omega) (Ev.pos iL (Ev.pos c (Ev.pos (by omega) (Ev.pos iL1 (Ev.pos (by omega) (Ev.pos rL (Ev.pos (by omega) (Ev.pos iL (Ev.pos (by omega) (Ev.pos iL1 (Ev.pos (by omega) (Ev.pos rL (Ev.succ ?_)))))))))))))))
        simp only [pileref1_merged.j4, w3]
        exact e2
    · obtain ⟨e1, e2⟩ := ih (i + 2) (R ++ [g, m]) (by omega) (by omega) (by simp) (by simp; omega) (fun x hx => by
        rcases List.mem_append.1 hx with hx | hx
        · exact h4 x hx
        · simp only [List.mem_cons, List.not_mem_nil, or_false] at hx
          rcases hx with rfl | rfl <;> omega) (by rw [sum_app2]; simp; omega)
      have eg : gapsF least R (g :: m :: l.drop (i + 2)) = gapsF least (R ++ [g, m]) (l.drop (i + 2)) := by rw [gapsF, if_neg c]
      rw [eg]
      refine ⟨Ev.succ ?_, Ev.succ ?_⟩
      · simp only [key_closed.l0, r0, r1, w1]
        refine Ev.pos iL (Ev.pos (by omega) (Ev.pos iL (Ev.neg c (Ev.pos (by omega) (Ev.pos iL (Ev.pos (by omega) (Ev.pos iL1 (Ev.pos (by simp; omega) (Ev.succ ?_)))))))))
        simp only [key_closed.j4, w2]
        exact e1
      · have e3 : Ev (fun k => pileref1_merged.l0 k l 1 least ((i + 1 : Nat) : Int) (R ++ [g])) (gapsF least (R ++ [g, m]) (l.drop (i + 2))) := by
          refine Ev.succ ?_
          simp only [pileref1_merged.l0, r1]
          refine Ev.pos iL1 (Ev.neg tm2 (Ev.pos (by omega) (Ev.pos iL1 (Ev.pos (by simp; omega) (Ev.succ ?_)))))
          simp only [pileref1_merged.j4, w3, List.append_assoc, List.cons_append, List.nil_append]
          exact e2
        simp only [pileref1_merged.l0, r0]
        refine Ev.pos iL (Ev.pos tm (Ev.pos (by omega) (Ev.pos iL (Ev.neg c (Ev.pos (by omega) (Ev.pos iL (Ev.pos (by omega) (Ev.succ ?_))))))))
        simp only [pileref1_merged.j4, w1]
        exact e3
end Go.EV.Pure
namespace Go.EV.Pure
open Go Go.EV Go.RowKit
set_option linter.unusedSimpArgs false
set_option linter.unusedVariables false
set_option maxRecDepth 100000
theorem gapsF_ok (least : Int) : ∀ (n : Nat) (rest R : List Int), rest.length = 2 * n → R ≠ [] → (∀ x ∈ R, 0 ≤ x) → (∀ x ∈ rest, 0 ≤ x) →
    gapsF least R rest ≠ [] ∧ (gapsF least R rest).length % 2 = R.length % 2 ∧ (gapsF least R rest).length ≤ R.length + rest.length ∧ (∀ x ∈ gapsF least R rest, 0 ≤ x) ∧ (gapsF least R rest).sum = R.sum + rest.sum := by
  intro n
  induction n with
  | zero =>
    intro rest R h1 h2 h3 h4
    obtain rfl : rest = [] := List.eq_nil_of_length_eq_zero (by omega)
    simp only [gapsF]
    exact ⟨h2, by first | trivial | rfl, by simp, h3, by simp⟩
  | succ n ih =>
    intro rest R h1 h2 h3 h4
    match rest, h1, h4 with
    | g :: m :: r, h1, h4 =>
      have hr : r.length = 2 * n := by simp only [List.length_cons] at h1; omega
      have hg := h4 g (by simp)
      have hm := h4 m (by simp)
      have hr4 : ∀ x ∈ r, 0 ≤ x := fun x hx => h4 x (by simp [hx])
      rw [gapsF]
      split
      · obtain ⟨a1, a2, a3, a4, a5⟩ := ih r (addLast R (g + m)) hr (addLast_ne R _ h2) (addLast_nn R _ h2 h3 (by omega)) hr4
        rw [addLast_len] at a2 a3
        rw [addLast_sum R _ h2] at a5
        refine ⟨a1, a2, by simp only [List.length_cons]; omega, a4, by simp only [List.sum_cons]; omega⟩
      · obtain ⟨a1, a2, a3, a4, a5⟩ := ih r (R ++ [g, m]) hr (by simp) (fun x hx => by
          rcases List.mem_append.1 hx with hx | hx
          · exact h3 x hx
          · simp only [List.mem_cons, List.not_mem_nil, or_false] at hx
            rcases hx with rfl | rfl <;> omega) hr4
        rw [List.length_append] at a2 a3
        rw [sum_app2] at a5
        simp only [List.length_cons, List.length_nil] at a2 a3
        simp only [List.sum_cons, List.sum_nil] at a5
        refine ⟨a1, by omega, by simp only [List.length_cons]; omega, a4, by simp only [List.sum_cons]; omega⟩
theorem sum_bdN (N : Int) (hN : 0 ≤ N) : ∀ l : List Int, (∀ x ∈ l, x ≤ N) → l.sum ≤ N * l.length
  | [], _ => by simp
  | a :: r, h => by
    have h1 := sum_bdN N hN r (fun x hx => h x (by simp [hx]))
    have h2 := h a (by simp)
    simp only [List.sum_cons, List.length_cons, Int.natCast_add, Int.mul_add, Int.natCast_one, Int.mul_one]
    omega
def OKL (D : List Int) : Prop := (D = [] ∨ D.length % 2 = 1) ∧ D.length ≤ 20000 ∧ (∀ x ∈ D, 0 ≤ x) ∧ D.sum ≤ 3000000000
theorem closed_both (l : List Int) (least : Int) (hl : MK 100000 l) (ho : l.length % 2 = 1) : ∃ C, OKL C ∧ C ≠ [] ∧ Ev (fun k => key_closed.f k l least) C ∧ Ev (fun k => pileref1_merged.f k l 1 least) C := by
  have hll := hl.1
  have hp : ∀ x ∈ l, 0 ≤ x := fun x hx => by have := hl.2 x hx; omega
  have hs := sum_bdN 100000 (by omega) l (fun x hx => (hl.2 x hx).2)
  have hs2 : l.sum ≤ 3000000000 := by omega
  have h0 : 0 < l.length := by omega
  have r0 : rd l 0 = l[0] := rd_get l 0 h0
  have hd : l = l[0] :: l.drop 1 := by
    have := List.drop_eq_getElem_cons h0
    rwa [List.drop_zero] at this
  have hsum : l.sum = l[0] + (l.drop 1).sum := by
    have := congrArg List.sum hd
    rwa [List.sum_cons] at this
  have p0 := hp _ (List.getElem_mem h0)
  obtain ⟨e1, e2⟩ := closed_run l least hll ho hp hs2 ((l.length - 1) / 2) 1 [l[0]] (by omega) (by omega) (by simp) (by simp) (fun x hx => by obtain rfl := List.mem_singleton.1 hx; exact p0) (by simp only [List.sum_cons, List.sum_nil]; omega)
  obtain ⟨a1, a2, a3, a4, a5⟩ := gapsF_ok least ((l.length - 1) / 2) (l.drop 1) [l[0]] (by rw [List.length_drop]; omega) (by simp) (fun x hx => by obtain rfl := List.mem_singleton.1 hx; exact p0) (fun x hx => hp x (List.mem_of_mem_drop hx))
  rw [List.length_drop] at a3
  simp only [List.length_cons, List.length_nil] at a2 a3
  simp only [List.sum_cons, List.sum_nil] at a5
  refine ⟨_, ⟨.inr (by omega), by omega, a4, by omega⟩, a1, ?_, ?_⟩
  · unfold key_closed.f
    simp only [r0]
    exact Ev.pos (by omega) e1
  · unfold pileref1_merged.f
    refine Ev.succ ?_
    have tm : ¬ Int.tmod 0 2 = 1 := by decide
    simp only [pileref1_merged.l0, r0]
    refine Ev.pos (by omega) (Ev.neg tm (Ev.pos (by omega) (Ev.pos (by omega) (Ev.pos (by simp) (Ev.succ ?_)))))
    simp only [pileref1_merged.j4, List.nil_append]
    rw [wrap_id (e := 0 + 1) (by omega) (by omega)]
    exact e2
/-! marks that are shorter -/
theorem marks_run (E : List Int) (least : Int) (hl : E.length ≤ 20000) (ho : E.length % 2 = 1) (hp : ∀ x ∈ E, 0 ≤ x) (d : Nat) :
    ∀ (j : Nat) (R : List Int), j + 2 * d + 1 = E.length → R.length ≤ j → (∀ x ∈ R, 0 ≤ x) → R.sum + (E.drop j).sum ≤ 3000000000 → ∀ (hj : j < E.length),
      Ev (fun k => key_cleaned.l2 k least E ((j + 1 : Nat) : Int) (R ++ [E[j]])) (marksG least R (E.drop j)) ∧ Ev (fun k => pileref1_merged.l0 k E 0 least (j : Int) R) (marksG least R (E.drop j)) := by
  induction d with
  | zero =>
    intro j R hd h3 h4 h5 hj
    have r0 := rd_get E j hj
    have hdr : E.drop j = [E[j]] := by rw [List.drop_eq_getElem_cons hj, List.drop_eq_nil_of_le (by omega)]
    rw [hdr, marksG]
    have tm : Int.tmod (j : Int) 2 = 0 := by rw [tmod_pos (by omega)]; omega
    have w1 : wrap64 ((j : Int) + 1) = ((j + 1 : Nat) : Int) := wrap_succ (by omega)
    have iL : (j : Int) < (E.length : Int) := by omega
    have iN : ¬ ((j + 1 : Nat) : Int) < (E.length : Int) := by omega
    refine ⟨Ev.succ ?_, Ev.succ ?_⟩
    · simp only [key_cleaned.l2]
      exact Ev.neg iN (Ev.now _)
    · have fin : Ev (fun k => pileref1_merged.j4 k E 0 least (j : Int) (R ++ [E[j]])) (R ++ [E[j]]) := by
        refine Ev.succ ?_
        simp only [pileref1_merged.j4, w1]
        refine Ev.succ ?_
        simp only [pileref1_merged.l0]
        exact Ev.neg iN (Ev.now _)
      have fin2 : Ev (fun k => if 0 ≤ (j : Int) then (if (j : Int) < (E.length : Int) then (if R.length + 1 ≤ 549755813888 then pileref1_merged.j4 k E 0 least (j : Int) (R ++ [E[j]]) else Option.none) else Option.none) else Option.none) (R ++ [E[j]]) := Ev.pos (by omega) (Ev.pos iL (Ev.pos (by omega) fin))
      simp only [pileref1_merged.l0, r0, w1]
      refine Ev.pos iL (Ev.pos tm (Ev.pos (by omega) (Ev.pos iL (Ev.ite (fun _ => Ev.ite (fun _ => Ev.neg iN fin2) (fun _ => fin2)) (fun _ => fin2)))))
  | succ d ih =>
    intro j R hd h3 h4 h5 hj
    have hj1 : j + 1 < E.length := by omega
    have hj2 : j + 2 < E.length := by omega
    have r0 := rd_get E j hj
    have r1 := rd_get E (j + 1) hj1
    have r2 := rd_get E (j + 2) hj2
    have p0 := hp _ (List.getElem_mem hj)
    have p1 := hp _ (List.getElem_mem hj1)
    rw [drop2 E j hj1] at h5 ⊢
    simp only [List.sum_cons] at h5
    have pd := nonneg_sum (R := E.drop (j + 2)) (fun x hx => hp x (List.mem_of_mem_drop hx))
    have pR := nonneg_sum h4
    have tm : Int.tmod (j : Int) 2 = 0 := by rw [tmod_pos (by omega)]; omega
    have tm2 : ¬ Int.tmod ((j + 1 : Nat) : Int) 2 = 0 := by rw [tmod_pos (by omega)]; omega
    have w1 : wrap64 ((j : Int) + 1) = ((j + 1 : Nat) : Int) := wrap_succ (by omega)
    have w2 : wrap64 (((j + 1 : Nat) : Int) + 1) = ((j + 2 : Nat) : Int) := by rw [wrap_id (by omega) (by omega)]; omega
    have w3 : wrap64 (((j + 1 : Nat) : Int) + 2) = ((j + 3 : Nat) : Int) := by rw [wrap_id (by omega) (by omega)]; omega
    have wm : wrap64 (((j + 1 : Nat) : Int) - 1) = (j : Int) := by rw [wrap_id (by omega) (by omega)]; omega
    have iL : (j : Int) < (E.length : Int) := by omega
    have iL1 : ((j + 1 : Nat) : Int) < (E.length : Int) := by omega
    have iL2 : ((j + 2 : Nat) : Int) < (E.length : Int) := by omega
    have z0 : (0 : Int) ≤ (j : Int) := by omega
    have z1 : (0 : Int) ≤ ((j + 1 : Nat) : Int) := by omega
    have z2 : (0 : Int) ≤ ((j + 2 : Nat) : Int) := by omega
    have ih' := fun R' q1 q2 q3 => ih (j + 2) R' (by omega) q1 q2 q3 hj2
    generalize E[j] = m at *
    generalize E[j + 1] = g at *
    generalize E[j + 2] = m2 at *
    have hn : wrap64 (((R ++ [m]).length : Int) - 1) = (R.length : Int) := by rw [List.length_append, List.length_singleton, wrap_id (by omega) (by omega)]; omega
    have hrm : rd (R ++ [m]) (R.length : Int) = m := by rw [rd_get _ _ (by simp)]; simp
    have htk : (R ++ [m]).take R.length = R := List.take_left' rfl
    have oL : (R.length : Int) < ((R ++ [m]).length : Int) := by simp; omega
    have zR : (0 : Int) ≤ (R.length : Int) := by omega
    have wa : wrap64 (m + g) = m + g := wrap_id (by omega) (by omega)
    by_cases c : m < least ∧ R ≠ []
    · obtain ⟨c1, c2⟩ := c
      have hRl : 1 ≤ R.length := List.length_pos_iff.2 c2
      have pl := mem_le_sum h4 _ (last_mem R c2)
      have pl0 := h4 _ (last_mem R c2)
      have wn : wrap64 ((R.length : Int) - 1) = ((R.length - 1 : Nat) : Int) := by rw [wrap_id (by omega) (by omega)]; omega
      have wb : wrap64 (R.getD (R.length - 1) 0 + (m + g)) = R.getD (R.length - 1) 0 + (m + g) := wrap_id (by omega) (by omega)
      have hadd : R.set (R.length - 1) (R.getD (R.length - 1) 0 + (m + g)) = addLast R (m + g) := rfl
      have rL : ((R.length - 1 : Nat) : Int) < (R.length : Int) := by omega
      have zR1 : (0 : Int) ≤ ((R.length - 1 : Nat) : Int) := by omega
      have gR : (R.length : Int) > 0 := by omega
      obtain ⟨e1, e2⟩ := ih' (addLast R (m + g)) (by rw [addLast_len]; omega) (addLast_nn R _ c2 h4 (by omega)) (by rw [addLast_sum R _ c2]; omega)
      have eg : marksG least R (m :: g :: E.drop (j + 2)) = marksG least (addLast R (m + g)) (E.drop (j + 2)) := by rw [marksG, if_pos ⟨c1, c2⟩]
      rw [eg]
      refine ⟨Ev.succ ?_, Ev.succ ?_⟩
      · simp only [key_cleaned.l2, hn, hrm, Int.toNat_natCast, htk, wn, rd_last, wm, r0, r1, w2, r2, wa, wb, hadd, w3]
        exact Ev.pos iL1 (Ev.pos zR (Ev.pos oL (Ev.pos c1 (Ev.pos gR (Ev.pos zR (Ev.pos (by omega) (Ev.pos zR1 (Ev.pos rL (Ev.pos z0 (Ev.pos iL (Ev.pos z1 (Ev.pos iL1 (Ev.pos zR1 (Ev.pos rL (Ev.pos z2 (Ev.pos iL2 (Ev.pos (by rw [addLast_len]; simp; omega) e1)))))))))))))))))
      · simp only [pileref1_merged.l0, r0, r1, w1, wn, rd_last, wa, wb, Int.toNat_natCast, hadd]
        refine Ev.pos iL (Ev.pos tm (Ev.pos z0 (Ev.pos iL (Ev.pos c1 (Ev.pos gR (Ev.pos iL1 (Ev.pos zR1 (Ev.pos rL (Ev.pos z0 (Ev.pos iL (Ev.pos z1 (Ev.pos iL1 (Ev.pos zR1 (Ev.pos rL (Ev.succ ?_)))))))))))))))
        simp only [pileref1_merged.j4, w2]
        exact e2
    · obtain ⟨e1, e2⟩ := ih' (R ++ [m, g]) (by simp; omega) (fun x hx => by
        rcases List.mem_append.1 hx with hx | hx
        · exact h4 x hx
        · simp only [List.mem_cons, List.not_mem_nil, or_false] at hx
          rcases hx with rfl | rfl <;> omega) (by rw [sum_app2]; simp; omega)
      have eg : marksG least R (m :: g :: E.drop (j + 2)) = marksG least (R ++ [m, g]) (E.drop (j + 2)) := by rw [marksG, if_neg c]
      rw [eg]
      have eo : R ++ [m] ++ [g, m2] = R ++ [m, g] ++ [m2] := by simp
      refine ⟨Ev.succ ?_, Ev.succ ?_⟩
      · have fin : Ev (fun k => if 0 ≤ ((j + 1 : Nat) : Int) then (if ((j + 1 : Nat) : Int) < (E.length : Int) then (if 0 ≤ ((j + 2 : Nat) : Int) then (if ((j + 2 : Nat) : Int) < (E.length : Int) then (if (R ++ [m]).length + [g, m2].length ≤ 549755813888 then key_cleaned.l2 k least E ((j + 3 : Nat) : Int) (R ++ [m] ++ [g, m2]) else Option.none) else Option.none) else Option.none) else Option.none) else Option.none) (marksG least (R ++ [m, g]) (E.drop (j + 2))) :=
          Ev.pos z1 (Ev.pos iL1 (Ev.pos z2 (Ev.pos iL2 (Ev.pos (by simp; omega) (by rw [eo]; exact e1)))))
        simp only [key_cleaned.l2, hn, hrm, Int.toNat_natCast, htk, wm, r0, r1, w2, r2, w3]
        refine Ev.pos iL1 (Ev.pos zR (Ev.pos oL (Ev.ite (fun c1 => Ev.neg (fun c2 => c ⟨c1, fun e => by rw [e] at c2; simp at c2⟩) fin) (fun _ => fin))))
      · have e3 : Ev (fun k => pileref1_merged.j4 k E 0 least (j : Int) (R ++ [m])) (marksG least (R ++ [m, g]) (E.drop (j + 2))) := by
          refine Ev.succ ?_
          simp only [pileref1_merged.j4, w1]
          refine Ev.succ ?_
          simp only [pileref1_merged.l0, r1]
          refine Ev.pos iL1 (Ev.neg tm2 (Ev.pos z1 (Ev.pos iL1 (Ev.pos (by simp; omega) (Ev.succ ?_)))))
          simp only [pileref1_merged.j4, w2, List.append_assoc, List.cons_append, List.nil_append]
          exact e2
        have fin : Ev (fun k => if 0 ≤ (j : Int) then (if (j : Int) < (E.length : Int) then (if R.length + 1 ≤ 549755813888 then pileref1_merged.j4 k E 0 least (j : Int) (R ++ [m]) else Option.none) else Option.none) else Option.none) (marksG least (R ++ [m, g]) (E.drop (j + 2))) := Ev.pos z0 (Ev.pos iL (Ev.pos (by omega) e3))
        simp only [pileref1_merged.l0, r0, w1]
        refine Ev.pos iL (Ev.pos tm (Ev.pos z0 (Ev.pos iL (Ev.ite (fun c1 => Ev.neg (fun c2 => c ⟨c1, fun e => by rw [e] at c2; simp at c2⟩) fin) (fun _ => fin)))))
theorem marksG_ok (least : Int) : ∀ (n : Nat) (rest R : List Int), rest.length = 2 * n + 1 → (∀ x ∈ R, 0 ≤ x) → (∀ x ∈ rest, 0 ≤ x) → marksG least R rest ≠ [] ∧ (marksG least R rest).length ≤ R.length + rest.length := by
  intro n
  induction n with
  | zero =>
    intro rest R h1 h3 h4
    match rest, h1 with
    | [m], _ => rw [marksG]; exact ⟨by simp, by simp⟩
  | succ n ih =>
    intro rest R h1 h3 h4
    match rest, h1, h4 with
    | m :: g :: r, h1, h4 =>
      have hr : r.length = 2 * n + 1 := by simp only [List.length_cons] at h1; omega
      have hg := h4 g (by simp)
      have hm := h4 m (by simp)
      have hr4 : ∀ x ∈ r, 0 ≤ x := fun x hx => h4 x (by simp [hx])
      match r, hr with
      | a :: r', hr =>
        rw [marksG]
        split
        · rename_i c
          obtain ⟨a1, a3⟩ := ih (a :: r') (addLast R (m + g)) hr (addLast_nn R _ c.2 h3 (by omega)) hr4
          rw [addLast_len] at a3
          exact ⟨a1, by simp only [List.length_cons] at a3 ⊢; omega⟩
        · obtain ⟨a1, a3⟩ := ih (a :: r') (R ++ [m, g]) hr (fun x hx => by
            rcases List.mem_append.1 hx with hx | hx
            · exact h3 x hx
            · simp only [List.mem_cons, List.not_mem_nil, or_false] at hx
              rcases hx with rfl | rfl <;> omega) hr4
          rw [List.length_append] at a3
          exact ⟨a1, by simp only [List.length_cons, List.length_nil] at a3 ⊢; omega⟩
theorem Max_spec (D : List Int) (hl : D.length ≤ 20000) (h0 : D ≠ []) : ∃ M, Ev (fun k => slices_Max_int_int.f k D) M ∧ (M > 100000 ↔ ∃ x ∈ D, x > 100000) := by
  have hp : 1 ≤ D.length := List.length_pos_iff.2 h0
  obtain ⟨M, ⟨hm1, hm2⟩, hv⟩ := loop D (fun k i (a : Int) => slices_Max_int_int.l0 k D a i) (fun i a => a ∈ D ∧ ∀ (j : Nat) (h : j < D.length), j < i → D[j] ≤ a) (fun M => M ∈ D ∧ ∀ x ∈ D, x ≤ M)
    (fun i a hi ha => .inl ⟨mx a D[i], ⟨by rw [mx_eq]; split; exact List.getElem_mem hi; exact ha.1, fun j h hj => by
      by_cases e : j = i
      · subst e; rw [mx_eq]; split <;> omega
      · have := ha.2 j h (by omega); rw [mx_eq]; split <;> omega⟩, fun v hv => Ev.step (fun k => by
      simp only [slices_Max_int_int.l0]
      rw [if_pos (by omega), if_pos (by omega), if_pos (by omega), rd_get D i hi, wrap_succ (by omega)]) hv⟩)
    (fun a ha => ⟨a, ⟨ha.1, fun x hx => by
      obtain ⟨j, hj, rfl⟩ := List.getElem_of_mem hx
      exact ha.2 j hj hj⟩, Ev.step (f := fun _ => some _) (fun k => by simp only [slices_Max_int_int.l0]; rw [if_neg (by omega)]) (Ev.now _)⟩) 1 (D[0]'(by omega)) hp ⟨List.getElem_mem _, fun j h hj => by obtain rfl : j = 0 := (by omega); exact Int.le_refl _⟩
  have r0 : rd D 0 = D[0]'(by omega) := rd_get D 0 (by omega)
  refine ⟨M, ?_, fun h => ⟨M, hm1, h⟩, fun ⟨x, hx, h⟩ => by have := hm2 x hx; omega⟩
  unfold slices_Max_int_int.f
  refine Ev.neg (by omega) (Ev.succ ?_)
  simp only [slices_Max_int_int.j3, r0]
  exact Ev.pos (by omega) hv
theorem big_spec (D : List Int) (hl : D.length ≤ 20000) : ∃ b : Bool, Ev (fun k => slices_ContainsFunc_int_int_of_key_Clean_1.f k D) b ∧ (b = true ↔ ∃ x ∈ D, x > 100000) := by
  obtain ⟨v, hv, he⟩ := loop D (fun k i (_ : Unit) => slices_IndexFunc_int_int_of_key_Clean_1.l0 k D i) (fun i _ => ∀ (j : Nat) (h : j < D.length), j < i → ¬ D[j] > 100000) (fun v => (0 ≤ v ∧ ∃ x ∈ D, x > 100000) ∨ (v = -1 ∧ ¬ ∃ x ∈ D, x > 100000))
    (fun i _ hi hI => by
      have h1 : (i : Int) < (D.length : Int) := by omega
      by_cases c : D[i] > 100000
      · refine .inr ⟨(i : Int), .inl ⟨by omega, _, List.getElem_mem hi, c⟩, Ev.succ ?_⟩
        simp only [slices_IndexFunc_int_int_of_key_Clean_1.l0, key_Clean_1.f, rd_get D i hi, Option.bind_some]
        exact Ev.pos h1 (Ev.pos (by omega) (Ev.pos h1 (Ev.pos (by simpa using c) (Ev.now _))))
      · refine .inl ⟨(), fun j h hj => ?_, fun v hv => Ev.succ ?_⟩
        · by_cases e : j = i
          · subst e; exact c
          · exact hI j h (by omega)
        · simp only [slices_IndexFunc_int_int_of_key_Clean_1.l0, key_Clean_1.f, rd_get D i hi, Option.bind_some, wrap_succ (show i ≤ 1000000000000000 by omega)]
          exact Ev.pos h1 (Ev.pos (by omega) (Ev.pos h1 (Ev.neg (by simpa using c) hv))))
    (fun _ hI => ⟨-1, .inr ⟨rfl, fun ⟨x, hx, h⟩ => by
      obtain ⟨j, hj, rfl⟩ := List.getElem_of_mem hx
      exact hI j hj hj h⟩, Ev.succ (by simp only [slices_IndexFunc_int_int_of_key_Clean_1.l0]; exact Ev.neg (by omega) (Ev.now _))⟩) 0 () (by omega) (fun j h hj => by omega)
  refine ⟨decide (v ≥ 0), Ev.bind (f := fun k => slices_IndexFunc_int_int_of_key_Clean_1.l0 k D 0) he (Ev.now _), ?_⟩
  rcases hv with ⟨h1, h2⟩ | ⟨rfl, h2⟩
  · simp [h1, h2]
  · simp only [ge_iff_le, decide_eq_true_eq]
    exact ⟨fun h => absurd h (by decide), fun h => absurd h h2⟩
/-- Both behind the marks and gaps that are shorter at the ends. -/
def Both (least : Int) (A : Nat → Option (List Int)) (B : Nat → Option (List Int × Int)) : Prop :=
  ∃ r : List Int, r.length ≤ 20000 ∧ Ev A r ∧ ((r = [] ∧ Ev B ([], 8)) ∨ (r ≠ [] ∧ ((∃ x ∈ r, x > 100000) ∧ Ev B ([], 2) ∨ (¬ ∃ x ∈ r, x > 100000) ∧ Ev B (r, 0))))
theorem Both.mono {least : Int} {A A' : Nat → Option (List Int)} {B B' : Nat → Option (List Int × Int)} (h : Both least A B) (hA : ∀ v, Ev A v → Ev A' v) (hB : ∀ v, Ev B v → Ev B' v) : Both least A' B' := by
  obtain ⟨r, h1, h2, h3⟩ := h
  refine ⟨r, h1, hA _ h2, ?_⟩
  rcases h3 with ⟨h3, h4⟩ | ⟨h3, ⟨h4, h5⟩ | ⟨h4, h5⟩⟩
  · exact .inl ⟨h3, hB _ h4⟩
  · exact .inr ⟨h3, .inl ⟨h4, hB _ h5⟩⟩
  · exact .inr ⟨h3, .inr ⟨h4, hB _ h5⟩⟩
theorem sub_sum {D E R : List Int} (h : D = E ++ R) (hD : ∀ x ∈ D, 0 ≤ x) : E.sum ≤ D.sum ∧ R.sum ≤ D.sum := by
  subst h
  have h1 := nonneg_sum (R := E) (fun x hx => hD x (by simp [hx]))
  have h2 := nonneg_sum (R := R) (fun x hx => hD x (by simp [hx]))
  rw [sum_app2]
  omega
theorem mid_both (least : Int) (E : List Int) (hE : OKL E) (hne : E ≠ []) : Both least (fun k => key_cleaned.l2 k least E 1 [rd E 0]) (fun k => (pileref1_merged.f k E 0 least).bind fun r24 => ((slices_Max_int_int.f k r24).bind fun r25 => (if r25 > 100000 then Option.some ([], 2) else Option.some (r24, 0)))) := by
  obtain ⟨h1, h2, h3, h4⟩ := hE
  have ho := h1.resolve_left hne
  have h0 : 0 < E.length := by omega
  have r0 : rd E 0 = E[0] := rd_get E 0 h0
  obtain ⟨e1, e2⟩ := marks_run E least h2 ho h3 ((E.length - 1) / 2) 0 [] (by omega) (by simp) (fun x hx => by cases hx) (by simpa using h4) h0
  rw [List.drop_zero] at e1 e2
  obtain ⟨a1, a2⟩ := marksG_ok least ((E.length - 1) / 2) E [] (by omega) (fun x hx => by cases hx) h3
  generalize marksG least [] E = r at e1 e2 a1 a2
  have hrl : r.length ≤ 20000 := by simp only [List.length_nil] at a2; omega
  obtain ⟨M, eM, hM⟩ := Max_spec r hrl a1
  have eB : ∀ v, (if M > 100000 then (([] : List Int), (2 : Int)) else (r, 0)) = v → Ev (fun k => (pileref1_merged.f k E 0 least).bind fun r24 => ((slices_Max_int_int.f k r24).bind fun r25 => (if r25 > 100000 then Option.some ([], 2) else Option.some (r24, 0)))) v := fun v hv => by
    subst hv
    refine Ev.bind (f := fun k => pileref1_merged.f k E 0 least) e2 (Ev.bind eM (Ev.ite (fun c => ?_) (fun c => ?_)))
    · rw [if_pos c]; exact Ev.now _
    · rw [if_neg c]; exact Ev.now _
  refine ⟨r, hrl, by rw [r0]; exact e1, .inr ⟨a1, ?_⟩⟩
  by_cases c : M > 100000
  · exact .inl ⟨hM.1 c, eB _ (by rw [if_pos c])⟩
  · exact .inr ⟨fun h => c (hM.2 h), eB _ (by rw [if_neg c])⟩
theorem back_both (least : Int) (n : Nat) : ∀ D : List Int, D.length ≤ n → OKL D → Both least (fun k => key_cleaned.l1 k least D) (fun k => pileref1_CleanedOf.l1 k least D) := by
  induction n with
  | zero =>
    intro D hn _
    obtain rfl : D = [] := List.eq_nil_of_length_eq_zero (by omega)
    refine ⟨[], by simp, Ev.succ ?_, .inl ⟨rfl, Ev.succ ?_⟩⟩
    · simp only [key_cleaned.l1]
      exact Ev.neg (by simp) (Ev.pos (by simp) (Ev.now _))
    · simp only [pileref1_CleanedOf.l1]
      exact Ev.neg (by simp) (Ev.pos (by simp) (Ev.now _))
  | succ n ih =>
    intro D hn hD
    by_cases h0 : D = []
    · exact ih D (by rw [h0]; simp) hD
    obtain ⟨h1, h2, h3, h4⟩ := hD
    have ho := h1.resolve_left h0
    have hDl : 0 < D.length := by omega
    have w1 : wrap64 ((D.length : Int) - 1) = ((D.length - 1 : Nat) : Int) := by rw [wrap_id (by omega) (by omega)]; omega
    have w2 : wrap64 ((D.length : Int) - 2) = (D.length : Int) - 2 := wrap_id (by omega) (by omega)
    have hm : (mx 0 ((D.length : Int) - 2)).toNat = D.length - 2 ∧ 0 ≤ mx 0 ((D.length : Int) - 2) ∧ mx 0 ((D.length : Int) - 2) ≤ (D.length : Int) := by rw [mx_eq]; split <;> omega
    by_cases c : rd D ((D.length - 1 : Nat) : Int) < least
    · have hs := sub_sum (List.take_append_drop (D.length - 2) D).symm h3
      have := ih (D.take (D.length - 2)) (by rw [List.length_take]; omega) ⟨by
        by_cases e : D.length = 1
        · left; rw [e]; rfl
        · right; rw [List.length_take]; omega, by rw [List.length_take]; omega, fun x hx => h3 x (List.mem_of_mem_take hx), by omega⟩
      refine this.mono (fun v hv => Ev.succ ?_) (fun v hv => Ev.succ ?_)
      · simp only [key_cleaned.l1, w1, w2, hm.1]
        exact Ev.pos (by omega) (Ev.pos (by omega) (Ev.pos (by omega) (Ev.pos c (Ev.pos hm.2.1 (Ev.pos hm.2.2 hv)))))
      · simp only [pileref1_CleanedOf.l1, w1, w2, hm.1]
        exact Ev.pos (by omega) (Ev.pos (by omega) (Ev.pos (by omega) (Ev.pos c (Ev.pos hm.2.1 (Ev.pos hm.2.2 hv)))))
    · refine (mid_both least D ⟨h1, h2, h3, h4⟩ h0).mono (fun v hv => Ev.succ ?_) (fun v hv => Ev.succ ?_)
      · simp only [key_cleaned.l1, w1]
        exact Ev.pos (by omega) (Ev.pos (by omega) (Ev.pos (by omega) (Ev.neg c (Ev.neg (by omega) (Ev.pos (by omega) hv)))))
      · simp only [pileref1_CleanedOf.l1, w1]
        exact Ev.pos (by omega) (Ev.pos (by omega) (Ev.pos (by omega) (Ev.neg c (Ev.neg (by omega) hv))))
theorem front_both (least : Int) (n : Nat) : ∀ D : List Int, D.length ≤ n → OKL D → Both least (fun k => key_cleaned.l0 k least D) (fun k => pileref1_CleanedOf.l0 k least D) := by
  induction n with
  | zero =>
    intro D hn hD
    obtain rfl : D = [] := List.eq_nil_of_length_eq_zero (by omega)
    refine (back_both least 0 [] (by simp) hD).mono (fun v hv => Ev.succ ?_) (fun v hv => Ev.succ ?_)
    · simp only [key_cleaned.l0]
      exact Ev.neg (by simp) hv
    · simp only [pileref1_CleanedOf.l0]
      exact Ev.neg (by simp) hv
  | succ n ih =>
    intro D hn hD
    by_cases h0 : D = []
    · exact ih D (by rw [h0]; simp) hD
    have hb := back_both least D.length D (Nat.le_refl _) hD
    obtain ⟨h1, h2, h3, h4⟩ := hD
    have ho := h1.resolve_left h0
    have hDl : 0 < D.length := by omega
    have hm : (mn 2 (D.length : Int)).toNat = min 2 D.length ∧ 0 ≤ mn 2 (D.length : Int) ∧ mn 2 (D.length : Int) ≤ (D.length : Int) := by rw [mn_eq]; split <;> omega
    by_cases c : rd D 0 < least
    · have hs := sub_sum (List.take_append_drop (min 2 D.length) D).symm h3
      have := ih (D.drop (min 2 D.length)) (by rw [List.length_drop]; omega) ⟨by
        by_cases e : D.length = 1
        · left; exact List.drop_eq_nil_of_le (by omega)
        · right; rw [List.length_drop]; omega, by rw [List.length_drop]; omega, fun x hx => h3 x (List.mem_of_mem_drop hx), by omega⟩
      refine this.mono (fun v hv => Ev.succ ?_) (fun v hv => Ev.succ ?_)
      · simp only [key_cleaned.l0, hm.1]
        exact Ev.pos (by omega) (Ev.pos (by omega) (Ev.pos c (Ev.pos hm.2.1 (Ev.pos hm.2.2 hv))))
      · simp only [pileref1_CleanedOf.l0, hm.1]
        exact Ev.pos (by omega) (Ev.pos (by omega) (Ev.pos c (Ev.pos hm.2.1 (Ev.pos hm.2.2 hv))))
    · refine hb.mono (fun v hv => Ev.succ ?_) (fun v hv => Ev.succ ?_)
      · simp only [key_cleaned.l0]
        exact Ev.pos (by omega) (Ev.pos (by omega) (Ev.neg c hv))
      · simp only [pileref1_CleanedOf.l0]
        exact Ev.pos (by omega) (Ev.pos (by omega) (Ev.neg c hv))
/-- Clean and CleanedOf are the same. -/
theorem Clean_both (l : List Int) (least : Int) (hl : MK 100000 l) (ho : l.length % 2 = 1) (hle : 1 ≤ least ∧ least ≤ 100000) : ∃ v : List Int × Int, Ev (fun k => key_Clean.f k l least) v ∧ Ev (fun k => pileref1_CleanedOf.f k l least) v ∧ v.1.length ≤ 20000 := by
  have hO : kit_Outside.f least 1 100000 = some false := by unfold kit_Outside.f; rw [if_neg (by omega)]; simp; omega
  obtain ⟨C, hC, hne, e1, e2⟩ := closed_both l least hl ho
  obtain ⟨r, h1, eA, h3⟩ := front_both least C.length C (Nat.le_refl _) hC
  have hB : ∀ v, Ev (fun k => pileref1_CleanedOf.l0 k least C) v → Ev (fun k => pileref1_CleanedOf.f k l least) v := fun v hv => by
    unfold pileref1_CleanedOf.f
    exact Ev.bind e2 hv
  have hA : ∀ v, Ev (fun k => if (r.length : Int) = 0 then Option.some (([] : List Int), (8 : Int)) else ((slices_ContainsFunc_int_int_of_key_Clean_1.f k r).bind fun r5 => (if r5 = true then Option.some ([], 2) else Option.some (r, 0)))) v → Ev (fun k => key_Clean.f k l least) v := fun v hv => by
    unfold key_Clean.f
    simp only [hO, Option.bind_some]
    exact Ev.bind (CheckOK l hl ho) (Ev.pos rfl (Ev.neg Bool.false_ne_true (Ev.bind e1 (Ev.bind (f := fun k => key_cleaned.f k C least) eA hv))))
  obtain ⟨b, eb, hb⟩ := big_spec r h1
  rcases h3 with ⟨h3, h4⟩ | ⟨h3, h4⟩
  · exact ⟨([], 8), hA _ (Ev.pos (by rw [h3]; simp) (Ev.now _)), hB _ h4, by simp⟩
  · have hr0 : ¬ (r.length : Int) = 0 := fun e => h3 (List.eq_nil_of_length_eq_zero (by omega))
    rcases h4 with ⟨h4, h5⟩ | ⟨h4, h5⟩
    · exact ⟨([], 2), hA _ (Ev.neg hr0 (Ev.bind eb (Ev.pos (hb.2 h4) (Ev.now _)))), hB _ h5, by simp⟩
    · exact ⟨(r, 0), hA _ (Ev.neg hr0 (Ev.bind eb (Ev.neg (fun h => h4 (hb.1 h)) (Ev.now _)))), hB _ h5, h1⟩
theorem keyedL_ev : Ev (fun k => pilelaw1_keyed.f k) true := Ev.from 300 fun k => (by kernel_rfl : pilelaw1_keyed.f (k + 300) = some true)
theorem orTwo_ev (a b : Int) : Ev (fun k => cmp_Or_api_Errno.f k [a, b]) (if a = 0 then b else a) := by
  unfold cmp_Or_api_Errno.f
  by_cases c : a = 0
  · rw [if_pos c]
    by_cases d : b = 0
    · exact Ev.from 3 fun k => by simp [cmp_Or_api_Errno.l0, rd, c, d, wrap64]
    · exact Ev.from 2 fun k => by simp [cmp_Or_api_Errno.l0, rd, c, d, wrap64]
  · rw [if_neg c]
    exact Ev.from 1 fun k => by simp [cmp_Or_api_Errno.l0, rd, c]
theorem Keyed_sp (l : List Int) (hl : l.length ≤ 140737488351232) : ∃ x s', Ev (fun k => pilemake_Stream_Keyed.f k l 0) (x, l, s') ∧ 0 ≤ s' ∧ s' ≤ 2000 := by
  obtain ⟨x, s, e1, x1, x2, x3, s0, s1⟩ := RightKeyed_sp l hl 0 (by omega) (by omega)
  have j8 : ∀ (y : List Int) (s : Int), Ev (fun k => pilemake_Stream_Keyed.j8 k y l s) (y, l, s) := fun y s => Ev.from 1 fun k => rfl
  have j6 : ∀ (y : List Int) (s : Int), 0 ≤ s → s ≤ 100000 → ∃ x s', Ev (fun k => pilemake_Stream_Keyed.j6 k y l s) (x, l, s') ∧ s ≤ s' ∧ s' ≤ s + 1 := fun y s h0 h1 => by
    obtain ⟨b, e⟩ := Flip_spec l s 30 h0 (by omega) (by omega) hl
    cases b with
    | true =>
      refine ⟨[], s + 1, Ev.succ ?_, by omega, by omega⟩
      simp only [pilemake_Stream_Keyed.j6]
      exact Ev.bind e (Ev.pos rfl (j8 _ _))
    | false =>
      refine ⟨y, s + 1, Ev.succ ?_, by omega, by omega⟩
      simp only [pilemake_Stream_Keyed.j6]
      exact Ev.bind e (Ev.neg Bool.false_ne_true (j8 _ _))
  have j4 : ∀ (y : List Int) (s : Int), y.length ≤ 1000 → 0 ≤ s → s ≤ 10000 → ∃ x s', Ev (fun k => pilemake_Stream_Keyed.j4 k y l s) (x, l, s') ∧ s ≤ s' ∧ s' ≤ s + 2 := fun y s hy h0 h1 => by
    obtain ⟨b, e⟩ := Flip_spec l s 25 h0 (by omega) (by omega) hl
    cases b with
    | true =>
      obtain ⟨z, s', e2, q1, q2⟩ := j6 (y ++ [7]) (s + 1) (by omega) (by omega)
      refine ⟨z, s', Ev.succ ?_, by omega, by omega⟩
      simp only [pilemake_Stream_Keyed.j4]
      exact Ev.bind e (Ev.pos rfl (Ev.pos (by omega) e2))
    | false =>
      obtain ⟨z, s', e2, q1, q2⟩ := j6 y (s + 1) (by omega) (by omega)
      refine ⟨z, s', Ev.succ ?_, by omega, by omega⟩
      simp only [pilemake_Stream_Keyed.j4]
      exact Ev.bind e (Ev.neg Bool.false_ne_true e2)
  obtain ⟨b, e2⟩ := Flip_spec l s 15 s0 (by omega) (by omega) hl
  cases b with
  | true =>
    obtain ⟨r, e3, r0, r1⟩ := Next_spec l (s + 1) (x.length : Int) (by omega) (by omega) (by omega) hl
    have r2 := r1 (by omega)
    obtain ⟨c, e4, _⟩ := Pick_spec l (s + 1 + 1) [0, 5, 100000, 100001] (by omega) (by omega) hl (by simp) (by simp)
    obtain ⟨z, s', e5, q1, q2⟩ := j4 (x.set r.toNat c) (s + 1 + 1 + 1) (by rw [List.length_set]; omega) (by omega) (by omega)
    exact ⟨z, s', Ev.bind e1 (Ev.bind e2 (Ev.pos rfl (Ev.bind e3 (Ev.bind e4 (Ev.pos r0 (Ev.pos r2 e5)))))), by omega, by omega⟩
  | false =>
    obtain ⟨z, s', e5, q1, q2⟩ := j4 x (s + 1) (by omega) (by omega) (by omega)
    exact ⟨z, s', Ev.bind e1 (Ev.bind e2 (Ev.neg Bool.false_ne_true e5)), by omega, by omega⟩
theorem j23_ok (x7 one two : Int) (T : ByteArray) (off : Int) (U C : List Int) (hT : ByteArray) (hu ho : Int) (is : Bool) (hU : U.length ≤ 20000) (hC : C.length ≤ 20000) :
    Ev (fun k => pilelaw1_MarksHeard.j23 k x7 T off one U one is x7 C two one T off U hT hu ho two C is hT hu ho) true := by
  refine Ev.succ ?_
  simp only [pilelaw1_MarksHeard.j23]
  have hR : Ev (fun k => (pilelaw1_keyed.f k).bind fun r => Option.some r) true := Ev.bind keyedL_ev (Ev.now _)
  have t : ∀ {p : Prop}, p → p := fun h => h
  exact Ev.pos (by first | trivial | rfl) (Ev.pos (by first | trivial | rfl) (Ev.pos (by first | trivial | rfl) (Ev.pos (by first | trivial | rfl) (Ev.bind (Equal_same U hU) (Ev.pos rfl (Ev.pos (by first | trivial | rfl) (Ev.pos (by simp) (Ev.pos (by simp) (Ev.pos (by first | trivial | rfl) (Ev.bind (Equal_same C hC) (Ev.pos rfl hR)))))))))))
theorem MarksHeard (l : List Int) (hl : l.length ≤ 140737488351232) : ∃ k, pilelaw1_MarksHeard.f k l = some true := by
  obtain ⟨x, s, e1, s0, s1⟩ := Keyed_sp l hl
  obtain ⟨u, e2, m2⟩ := Pick_spec l s [1, 20, 60, 100, 0] (by omega) (by omega) hl (by simp) (by simp)
  obtain ⟨w, e3, m3⟩ := Pick_spec l (s + 1) [1, 5, 20, 70, 400, 0] (by omega) (by omega) hl (by simp) (by simp)
  simp only [List.mem_cons, List.not_mem_nil, or_false] at m2 m3
  have eF := MarksFault_full x
  have eC := CheckMarks_full x
  have e10 := Span_eq u 1 2000
  have e12 := Span_eq w 1 100000
  have e11 := orTwo_ev (marksF x) (if 1 ≤ u ∧ u ≤ 2000 then 0 else 1)
  have e13 := orTwo_ev (marksF x) (if 1 ≤ w ∧ w ≤ 100000 then 0 else 1)
  by_cases c : marksF x = 0
  · obtain ⟨hx, ho, hp⟩ := marksF_ok c
    have eC0 := eC
    rw [c] at eF eC0 e11 e13
    rw [if_pos rfl] at e11 e13
    -- what is heard
    obtain ⟨b, hb, eH⟩ := Hear_ev x hx ho
    obtain ⟨b', hb', eH'⟩ := HeardOf_ev x hx
    have hbb := Best.uniq hb hb'
    subst hbb
    obtain ⟨T, hu', ho', is, hH, hH'⟩ : ∃ T hu' ho' is, hearR x b = (T, hu', ho', is, 0) ∧ heardR x b = (T, hu', ho', is) := by
      unfold hearR heardR
      split
      · exact ⟨_, _, _, _, rfl, rfl⟩
      · exact ⟨_, _, _, _, rfl, rfl⟩
    rw [hH] at eH
    rw [hH'] at eH'
    -- what is cleaned
    obtain ⟨D, two, eCl, eCr, hD, htwo⟩ : ∃ (D : List Int) (two : Int), Ev (fun k => key_Clean.f k x w) (D, two) ∧ (((1 ≤ w ∧ w ≤ 100000) ∧ Ev (fun k => pileref1_CleanedOf.f k x w) (D, two)) ∨ (¬ (1 ≤ w ∧ w ≤ 100000) ∧ D = [] ∧ two = 1)) ∧ D.length ≤ 20000 ∧ True := by
      by_cases cw : 1 ≤ w ∧ w ≤ 100000
      · obtain ⟨v, v1, v2, v3⟩ := Clean_both x w hx ho cw
        exact ⟨v.1, v.2, v1, .inl ⟨cw, v2⟩, v3, trivial⟩
      · refine ⟨[], 1, ?_, .inr ⟨cw, rfl, rfl⟩, by simp, trivial⟩
        have hO : kit_Outside.f w 1 100000 = some true := by
          unfold kit_Outside.f
          by_cases h1 : w < 1
          · rw [if_pos h1]
          · rw [if_neg h1]; exact congrArg some (by rw [decide_eq_true_eq]; omega)
        unfold key_Clean.f
        simp only [hO, Option.bind_some]
        exact Ev.bind eC0 (Ev.pos rfl (Ev.pos (by first | trivial | rfl) (Ev.now _)))
    -- what is read, and what is uneven
    obtain ⟨T2, off, U, one, eW, eU, eR, hU⟩ : ∃ (T2 : ByteArray) (off : Int) (U : List Int) (one : Int), Ev (fun k => key_With.f k x u) (T2, off, one) ∧ Ev (fun k => key_Uneven.f k x u) (U, one) ∧
        (((1 ≤ u ∧ u ≤ 2000) ∧ one = 0 ∧ Ev (fun k => pileref1_WithUnit.f k x u) (T2, off) ∧ Ev (fun k => pileref1_UnevenOf.f k x u) U) ∨ (¬ (1 ≤ u ∧ u ≤ 2000) ∧ one = 1 ∧ T2 = eB ∧ off = 0 ∧ U = [])) ∧ U.length ≤ 20000 := by
      by_cases cu : 1 ≤ u ∧ u ≤ 2000
      · obtain ⟨o, o1, o2, o3⟩ := UnevenOf_both x u hx ho cu
        exact ⟨_, _, o, 0, With_ev x u hx ho cu, o1, .inl ⟨cu, rfl, WithUnit_ev x u hx cu, o2⟩, by have := hx.1; omega⟩
      · have hO : kit_Outside.f u 1 2000 = some true := by
          unfold kit_Outside.f
          by_cases h1 : u < 1
          · rw [if_pos h1]
          · rw [if_neg h1]; exact congrArg some (by rw [decide_eq_true_eq]; omega)
        have eUF : Ev (fun k => key_unitFault.f k x u) 1 := by
          unfold key_unitFault.f
          simp only [hO, Option.bind_some]
          exact Ev.bind eC0 (Ev.pos rfl (Ev.pos (by first | trivial | rfl) (Ev.now _)))
        refine ⟨eB, 0, [], 1, ?_, ?_, .inr ⟨cu, rfl, rfl, rfl, rfl⟩, by simp⟩
        · unfold key_With.f
          exact Ev.bind eUF (Ev.neg (by decide) (Ev.now _))
        · unfold key_Uneven.f
          exact Ev.bind eUF (Ev.neg (by decide) (Ev.now _))
    have hfin := j23_ok 0 one two T2 off U D T hu' ho' is hU hD
    have f21 : Ev (fun k => pilelaw1_MarksHeard.j21 k x 0 T2 off one U one is 0 D two one T2 off U T hu' ho' two D) true := by
      refine Ev.succ ?_
      simp only [pilelaw1_MarksHeard.j21]
      exact Ev.pos (by first | trivial | rfl) (Ev.bind eH' hfin)
    have f19 : Ev (fun k => pilelaw1_MarksHeard.j19 k x w 0 T2 off one U one is 0 D two one (if 1 ≤ w ∧ w ≤ 100000 then 0 else 1) T2 off U T hu' ho') true := by
      refine Ev.succ ?_
      simp only [pilelaw1_MarksHeard.j19]
      rcases eCr with ⟨cw, e⟩ | ⟨cw, rfl, rfl⟩
      · rw [if_pos cw]
        exact Ev.pos (by first | trivial | rfl) (Ev.bind e f21)
      · rw [if_neg cw]
        exact Ev.neg (by decide) f21
    unfold pilelaw1_MarksHeard.f
    refine (Ev.bind e1 (Ev.bind e2 (Ev.bind e3 (Ev.bind eF (Ev.bind eC0 (Ev.pos rfl (Ev.bind eW (Ev.bind eU (Ev.bind eH (Ev.bind eCl (Ev.bind (Ev.of fun _ => e10) (Ev.bind e11 (Ev.bind (Ev.of fun _ => e12) (Ev.bind e13 ?_)))))))))))))).ex
    rcases eR with ⟨cu, rfl, eR1, eR2⟩ | ⟨cu, rfl, rfl, rfl, rfl⟩
    · rw [if_pos cu]
      exact Ev.pos (by first | trivial | rfl) (Ev.bind eR1 (Ev.bind eR2 f19))
    · rw [if_neg cu]
      exact Ev.neg (by decide) f19
  · rw [if_neg c] at e11 e13
    generalize marksF x = F at eF eC c e11 e13
    have eUF : Ev (fun k => key_unitFault.f k x u) F := by
      unfold key_unitFault.f
      exact Ev.bind eC (Ev.neg c (Ev.now _))
    have eW : Ev (fun k => key_With.f k x u) (eB, 0, F) := by
      unfold key_With.f
      exact Ev.bind eUF (Ev.neg c (Ev.now _))
    have eU : Ev (fun k => key_Uneven.f k x u) ([], F) := by
      unfold key_Uneven.f
      exact Ev.bind eUF (Ev.neg c (Ev.now _))
    have eH : Ev (fun k => key_Hear.f k x) (eB, 0, 0, false, F) := by
      unfold key_Hear.f
      exact Ev.bind eC (Ev.neg c (Ev.now _))
    have eCl : Ev (fun k => key_Clean.f k x w) ([], F) := by
      unfold key_Clean.f
      exact Ev.bind eC (Ev.neg c (Ev.now _))
    have hfin := j23_ok F F F eB 0 [] [] eB 0 0 false (by simp) (by simp)
    have f21 : Ev (fun k => pilelaw1_MarksHeard.j21 k x F eB 0 F [] F false F [] F F eB 0 [] eB 0 0 F []) true := by
      refine Ev.succ ?_
      simp only [pilelaw1_MarksHeard.j21]
      exact Ev.neg c hfin
    have f19 : Ev (fun k => pilelaw1_MarksHeard.j19 k x w F eB 0 F [] F false F [] F F F eB 0 [] eB 0 0) true := by
      refine Ev.succ ?_
      simp only [pilelaw1_MarksHeard.j19]
      exact Ev.neg c f21
    unfold pilelaw1_MarksHeard.f
    exact (Ev.bind e1 (Ev.bind e2 (Ev.bind e3 (Ev.bind eF (Ev.bind eC (Ev.pos rfl (Ev.bind eW (Ev.bind eU (Ev.bind eH (Ev.bind eCl (Ev.bind (Ev.of fun _ => e10) (Ev.bind e11 (Ev.bind (Ev.of fun _ => e12) (Ev.bind e13 (Ev.neg c f19))))))))))))))).ex
end Go.EV.Pure
