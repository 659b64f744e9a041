/- The plain law: the Lean functions answer true for every list. -/
import Derived.Test.YtfbepmnpdnekdaaGreatDoorXKeyedIsHeard
import Derived.KernelRfl
import Derived.Lib.SlTrimSet
import Derived.Lib.SplitLaws
import Derived.Lib.Join
set_option linter.unusedVariables false
set_option linter.unusedSimpArgs false
/-! Plain laws that all statements use: numbers that don't wrap, functions with fuel, loops over lists, the stream's draws. -/
namespace Go.EV.Pure
open Go Go.EV Go.RowKit
theorem wrap_id {e : Int} (h1 : -9223372036854775808 ≤ e) (h2 : e ≤ 9223372036854775807) : wrap64 e = e := by
  unfold wrap64
  omega
theorem tmod_pos {a n : Int} (h : 0 ≤ a) : a.tmod n = a % n := Int.tmod_eq_emod_of_nonneg h
theorem mx_eq (a b : Int) : mx a b = if a < b then b else a := rfl
theorem mn_eq (a b : Int) : mn a b = if b < a then b else a := rfl
theorem rd_get (l : List Int) (i : Nat) (h : i < l.length) : rd l (i : Int) = l[i] := by
  simp [rd, List.getD, List.getElem?_eq_getElem h]
theorem rdE_get {α : Type} (E : Enc α) (l : List α) (i : Nat) (h : i < l.length) : rdE E l (i : Int) = l[i] := by
  simp [rdE, List.getD, List.getElem?_eq_getElem h]
theorem rd_mem (l : List Int) (i : Int) (h0 : 0 ≤ i) (h1 : i < l.length) : rd l i ∈ l := by
  have h : i.toNat < l.length := by omega
  have : rd l i = l[i.toNat] := by simp [rd, List.getD, List.getElem?_eq_getElem h]
  rw [this]
  exact List.getElem_mem h
theorem rdE_mem {α : Type} (E : Enc α) (l : List α) (i : Int) (h0 : 0 ≤ i) (h1 : i < l.length) : rdE E l i ∈ l := by
  have h : i.toNat < l.length := by omega
  have : rdE E l i = l[i.toNat] := by simp [rdE, List.getD, List.getElem?_eq_getElem h]
  rw [this]
  exact List.getElem_mem h
theorem wrap_succ {i : Nat} (h : i ≤ 1000000000000000) : wrap64 ((i : Int) + 1) = ((i + 1 : Nat) : Int) := by rw [wrap_id (by omega) (by omega)]; omega

/-- From some fuel on the function answers v. -/
def Ev {α : Type} (f : Nat → Option α) (v : α) : Prop := ∃ K, ∀ k, K ≤ k → f k = some v
section
variable {α β : Type}
theorem Ev.now (v : α) : Ev (fun _ => some v) v := ⟨0, fun _ _ => rfl⟩
theorem Ev.of {f : Nat → Option α} {v : α} (h : ∀ k, f k = some v) : Ev f v := ⟨0, fun k _ => h k⟩
theorem Ev.from {f : Nat → Option α} {v : α} (n : Nat) (h : ∀ k, f (k + n) = some v) : Ev f v := ⟨n, fun k hk => by
  obtain ⟨m, rfl⟩ : ∃ m, k = m + n := ⟨k - n, by omega⟩
  exact h m⟩
theorem Ev.bind {f : Nat → Option α} {a : α} {g : Nat → α → Option β} {v : β} (h : Ev f a) (h2 : Ev (fun k => g k a) v) : Ev (fun k => (f k).bind (g k)) v := by
  obtain ⟨K, h⟩ := h
  obtain ⟨K2, h2⟩ := h2
  exact ⟨max K K2, fun k hk => by show (f k).bind (g k) = some v; rw [h k (by omega)]; exact h2 k (by omega)⟩
theorem Ev.step {g f : Nat → Option α} {v : α} (h : ∀ k, g (k + 1) = f k) (h2 : Ev f v) : Ev g v := by
  obtain ⟨K, h2⟩ := h2
  exact ⟨K + 1, fun k hk => by
    obtain ⟨m, rfl⟩ : ∃ m, k = m + 1 := ⟨k - 1, by omega⟩
    rw [h m]; exact h2 m (by omega)⟩
theorem Ev.succ {g : Nat → Option α} {v : α} (h : Ev (fun k => g (k + 1)) v) : Ev g v := Ev.step (fun _ => rfl) h
theorem Ev.congr {f g : Nat → Option α} {v : α} (h : ∀ k, f k = g k) (h2 : Ev g v) : Ev f v := by
  obtain ⟨K, h2⟩ := h2
  exact ⟨K, fun k hk => (h k).trans (h2 k hk)⟩
theorem Ev.ex {f : Nat → Option α} {v : α} (h : Ev f v) : ∃ k, f k = some v := let ⟨K, h⟩ := h; ⟨K, h K (Nat.le_refl _)⟩
theorem Ev.ite {p : Prop} [Decidable p] {f g : Nat → Option α} {v : α} (h1 : p → Ev f v) (h2 : ¬ p → Ev g v) : Ev (fun k => if p then f k else g k) v := by
  by_cases c : p
  · simp only [if_pos c]; exact h1 c
  · simp only [if_neg c]; exact h2 c
theorem Ev.pos {p : Prop} [Decidable p] {f g : Nat → Option α} {v : α} (c : p) (h1 : Ev f v) : Ev (fun k => if p then f k else g k) v := by simp only [if_pos c]; exact h1
theorem Ev.neg {p : Prop} [Decidable p] {f g : Nat → Option α} {v : α} (c : ¬ p) (h1 : Ev g v) : Ev (fun k => if p then f k else g k) v := by simp only [if_neg c]; exact h1

/-- A loop over a list by its index: what holds of its state carries over each round, or the round is the last one. -/
theorem loop {σ ρ : Type} (l : List α) (F : Nat → Int → σ → Option ρ) (I : Nat → σ → Prop) (post : ρ → Prop)
    (hstep : ∀ (i : Nat) (s : σ), i < l.length → I i s → (∃ s', I (i + 1) s' ∧ ∀ v, Ev (fun k => F k ((i + 1 : Nat) : Int) s') v → Ev (fun k => F k (i : Int) s) v) ∨ ∃ v, post v ∧ Ev (fun k => F k (i : Int) s) v)
    (hend : ∀ s, I l.length s → ∃ v, post v ∧ Ev (fun k => F k (l.length : Int) s) v) :
    ∀ (i : Nat) (s : σ), i ≤ l.length → I i s → ∃ v, post v ∧ Ev (fun k => F k (i : Int) s) v := by
  intro i
  generalize hd : l.length - i = d
  induction d generalizing i with
  | zero =>
    intro s hi hI
    obtain rfl : i = l.length := by omega
    exact hend s hI
  | succ d ih =>
    intro s hi hI
    rcases hstep i s (by omega) hI with ⟨s', h1, h2⟩ | h
    · obtain ⟨v, h3, h4⟩ := ih (i + 1) (by omega) s' (by omega) h1
      exact ⟨v, h3, h2 v h4⟩
    · exact h
end
end Go.EV.Pure
namespace Go.EV.Pure
open Go Go.EV Go.RowKit
set_option linter.unusedSimpArgs false
/-! Strings as lists of bytes. -/
def eB : ByteArray := ⟨#[]⟩
def mk (p : List UInt8) : ByteArray := ⟨p.toArray⟩
theorem mk_data (p : List UInt8) : (mk p).data.toList = p := by simp [mk]
theorem mk_size (p : List UInt8) : (mk p).size = p.length := by simp [mk, ByteArray.size]
theorem mk_of (s : ByteArray) : s = mk s.data.toList := by
  apply ByteArray.ext
  simp [mk]
theorem mk_inj {p q : List UInt8} : mk p = mk q ↔ p = q := ⟨fun h => by have := congrArg (fun s => s.data.toList) h; simpa [mk] using this, fun h => h ▸ rfl⟩
theorem mk_append (p q : List UInt8) : mk p ++ mk q = mk (p ++ q) := by
  apply ByteArray.ext
  simp [mk]
theorem mk_extract (p : List UInt8) (i j : Nat) : (mk p).extract i j = mk ((p.take j).drop i) := by
  apply ByteArray.ext
  simp only [mk, ByteArray.data_extract]
  apply Array.ext'
  simp [List.extract_eq_take_drop, List.drop_take]
theorem mk_bt (p : List UInt8) (i : Nat) (h : i < p.length) : bt (mk p) (i : Int) = (p[i].toNat : Int) := by
  unfold bt
  have hs : (Int.toNat (i : Int)) < (mk p).size := by simpa [mk_size] using h
  rw [dif_pos hs]
  have : (mk p)[Int.toNat (i : Int)]'hs = p[i] := by
    show (p.toArray)[Int.toNat (i : Int)]'_ = _
    simp only [Int.toNat_natCast, List.getElem_toArray]
    rfl
  rw [this]
  rfl
theorem mk_ascii (p : List UInt8) : asciiT (mk p) = p.all fun b => decide (b.toNat < 128) := by unfold asciiT; rw [mk_data]
theorem trimS_nil (l cs : List UInt8) : Lib.trimS l cs = [] ↔ ∀ b ∈ l, cs.contains b = true := by
  unfold Lib.trimS Lib.trimLeftS Lib.trimRightS
  have key0 : ∀ r : List UInt8, r.dropWhile (cs.contains ·) = [] ↔ ∀ x ∈ r, cs.contains x = true := by
    intro r
    induction r with
    | nil => simp
    | cons a r ih =>
      by_cases c : cs.contains a = true
      · rw [List.dropWhile_cons_of_pos c, ih]
        constructor
        · intro h x hx
          rcases List.mem_cons.1 hx with rfl | hx
          · exact c
          · exact h x hx
        · intro h x hx
          exact h x (by simp [hx])
      · rw [List.dropWhile_cons_of_neg c]
        constructor
        · intro h; cases h
        · intro h; exact absurd (h a (by simp)) c
  rw [key0]
  constructor
  · intro h b hb
    have key : ∀ r : List UInt8, (∀ x ∈ (r.dropWhile (cs.contains ·)), cs.contains x = true) → ∀ x ∈ r, cs.contains x = true := by
      intro r
      induction r with
      | nil => intro _ x hx; cases hx
      | cons a r ih =>
        intro h x hx
        by_cases c : cs.contains a = true
        · rw [List.dropWhile_cons_of_pos c] at h
          rcases List.mem_cons.1 hx with rfl | hx
          · exact c
          · exact ih h x hx
        · rw [List.dropWhile_cons_of_neg c] at h
          exact h x hx
    exact key l.reverse (fun x hx => h x (by simpa using hx)) b (by simpa using hb)
  · intro h x hx
    have hx : x ∈ l.reverse.dropWhile (cs.contains ·) := by simpa using hx
    exact h x (by simpa using (List.dropWhile_sublist _).subset hx)
theorem all_bytes {P : UInt8 → Prop} (h : ∀ n : Fin 256, P (UInt8.ofNat n.val)) (b : UInt8) : P b := by
  have := h ⟨b.toNat, UInt8.toNat_lt b⟩
  simpa using this
theorem ascii_sub {p q : List UInt8} (h : asciiT (mk p) = true) (hq : ∀ b ∈ q, b ∈ p) : asciiT (mk q) = true := by
  rw [mk_ascii, List.all_eq_true] at h ⊢
  exact fun b hb => h b (hq b hb)
end Go.EV.Pure
namespace Go.EV.Pure
open Go Go.EV Go.RowKit
theorem Below_j (x : Int) : Ev (fun k => pilemake_Below.j6 k x) x := Ev.from 1 fun k => rfl
theorem Below_spec (x n : Int) (hn : n ≤ 9223372036854775807) : ∃ r, Ev (fun k => pilemake_Below.f k x n) r ∧ 0 ≤ r ∧ (1 ≤ n → r < n) ∧ (n < 1 → r = 0) := by
  unfold pilemake_Below.f
  by_cases h : n < 1
  · simp only [if_pos h]
    exact ⟨0, Ev.now _, by omega, by omega, fun _ => rfl⟩
  · simp only [if_neg h, if_neg (show ¬ n = 0 by omega)]
    have hm := Int.natAbs_tmod x n
    have hm2 := Nat.mod_lt x.natAbs (show n.natAbs > 0 by omega)
    have h1 : x.tmod n < n := by omega
    have h2 : -n < x.tmod n := by omega
    by_cases h3 : x.tmod n < 0
    · simp only [if_pos h3]
      refine ⟨_, Below_j _, ?_, ?_, ?_⟩ <;> rw [wrap_id (by omega) (by omega)] <;> omega
    · simp only [if_neg h3]
      exact ⟨_, Below_j _, by omega, by omega, by omega⟩
theorem Next_spec (l : List Int) (s n : Int) (h0 : 0 ≤ s) (h1 : s ≤ 4611686018427387904) (hn : n ≤ 9223372036854775807) (hl : l.length ≤ 140737488351232) :
    ∃ r, Ev (fun k => pilemake_Stream_Next.f k l s n) (r, l, s + 1) ∧ 0 ≤ r ∧ (1 ≤ n → r < n) := by
  unfold pilemake_Stream_Next.f
  have hs : wrap64 (s + 1) = s + 1 := wrap_id (by omega) (by omega)
  have hs2 : wrap64 (s + 1 - 1) = s := by rw [wrap_id (by omega) (by omega)]; omega
  simp only [hs, hs2]
  by_cases h : (l.length : Int) = 0
  · simp only [if_pos h]
    obtain ⟨r, hr, r0, r1, _⟩ := Below_spec (wrap64 ((s + 1) * 7919)) n hn
    exact ⟨r, Ev.bind hr (Ev.now _), r0, r1⟩
  · have e : Int.tmod s (l.length : Int) = s % (l.length : Int) := Int.tmod_eq_emod_of_nonneg h0
    have m0 : 0 ≤ s % (l.length : Int) := Int.emod_nonneg _ h
    have m1 : s % (l.length : Int) < (l.length : Int) := Int.emod_lt_of_pos _ (by omega)
    simp only [if_neg h, e, if_pos m0, if_pos m1]
    obtain ⟨a, ha, _⟩ := Below_spec (rd l (s % (l.length : Int))) 1073741824 (by omega)
    obtain ⟨r, hr, r0, r1, _⟩ := Below_spec (wrap64 (a + wrap64 (wrap64 (Int.tdiv s (l.length : Int)) * wrap64 (7919 + s % (l.length : Int))))) n hn
    exact ⟨r, Ev.bind ha (Ev.bind hr (Ev.now _)), r0, r1⟩
theorem Pick_spec (l : List Int) (s : Int) (m : List Int) (h0 : 0 ≤ s) (h1 : s ≤ 4611686018427387904) (hl : l.length ≤ 140737488351232) (hm : 1 ≤ m.length) (hm2 : m.length ≤ 1000) :
    ∃ r, Ev (fun k => pilemake_Stream_Pick.f k l s m) (r, l, s + 1) ∧ r ∈ m := by
  obtain ⟨r, hr, r0, r1⟩ := Next_spec l s (m.length : Int) h0 h1 (by omega) hl
  have r2 := r1 (by omega)
  exact ⟨rd m r, Ev.bind hr (Ev.pos r0 (Ev.pos r2 (Ev.now _))), rd_mem m r r0 r2⟩
theorem Range_spec (l : List Int) (s a b : Int) (h0 : 0 ≤ s) (h1 : s ≤ 4611686018427387904) (ha : -1099511627776 ≤ a) (hb : b ≤ 1099511627776) (hab : a ≤ b) (hl : l.length ≤ 140737488351232) :
    ∃ r, Ev (fun k => pilemake_Stream_Range.f k l s a b) (r, l, s + 1) ∧ a ≤ r ∧ r ≤ b := by
  obtain ⟨r, hr, r0, r1⟩ := Next_spec l s (b - a + 1) h0 h1 (by omega) hl
  have r2 := r1 (by omega)
  refine ⟨a + r, ?_, by omega, by omega⟩
  unfold pilemake_Stream_Range.f
  rw [wrap_id (e := b - a) (by omega) (by omega), wrap_id (e := b - a + 1) (by omega) (by omega)]
  refine Ev.neg (by omega) (Ev.bind hr ?_)
  simp only [wrap_id (e := a + r) (by omega) (by omega)]
  exact Ev.now _
theorem Flip_spec (l : List Int) (s n : Int) (h0 : 0 ≤ s) (h1 : s ≤ 4611686018427387904) (hn : n ≤ 9223372036854775807) (hl : l.length ≤ 140737488351232) :
    ∃ b, Ev (fun k => pilemake_Stream_Flip.f k l s n) (b, l, s + 1) := by
  obtain ⟨r, hr, _⟩ := Next_spec l s n h0 h1 hn hl
  exact ⟨decide (r = 0), Ev.bind hr (Ev.now _)⟩
end Go.EV.Pure
namespace Go.EV.Pure
open Go Go.EV Go.RowKit
set_option linter.unusedSimpArgs false
set_option maxRecDepth 100000
/-! Strings that the stream draws: of ASCII, and short. -/
def GS (n : Nat) (s : ByteArray) : Prop := asciiT s = true ∧ s.size ≤ n
theorem ascii_app {a b : ByteArray} (ha : asciiT a = true) (hb : asciiT b = true) : asciiT (a ++ b) = true := by
  unfold asciiT at ha hb ⊢
  simp only [ByteArray.data_append, Array.toList_append, List.all_append, ha, hb, Bool.and_self]
theorem ascii_ext {a : ByteArray} (ha : asciiT a = true) (i j : Nat) : asciiT (a.extract i j) = true := by
  rw [mk_of a] at ha ⊢
  rw [mk_extract]
  exact ascii_sub ha fun b hb => List.mem_of_mem_take (List.mem_of_mem_drop hb)
theorem enc_ascii : ∀ b : UInt8, b.toNat < 128 → Utf8.encode (IntKind.i32.wrap (b.toNat : Int)) = mk [b] := all_bytes (by decide +kernel)
theorem GS.app {n m : Nat} {a b : ByteArray} (ha : GS n a) (hb : GS m b) : GS (n + m) (a ++ b) := ⟨ascii_app ha.1 hb.1, by rw [ByteArray.size_append]; have := ha.2; have := hb.2; omega⟩
theorem GS.mono {n m : Nat} {a : ByteArray} (ha : GS n a) (h : n ≤ m) : GS m a := ⟨ha.1, Nat.le_trans ha.2 h⟩
theorem Some_spec (l : List Int) (s : Int) (m : List ByteArray) (h0 : 0 ≤ s) (h1 : s ≤ 4611686018427387904) (hl : l.length ≤ 140737488351232) (hm : 1 ≤ m.length) (hm2 : m.length ≤ 1000) :
    ∃ r, Ev (fun k => pilemake_Stream_Some.f k l s m) (r, l, s + 1) ∧ r ∈ m := by
  obtain ⟨r, hr, r0, r1⟩ := Next_spec l s (m.length : Int) h0 h1 (by omega) hl
  have r2 := r1 (by omega)
  exact ⟨rdE eS m r, Ev.bind hr (Ev.pos r0 (Ev.pos r2 (Ev.now _))), rdE_mem eS m r r0 r2⟩
theorem Some_GS (n : Nat) (l : List Int) (s : Int) (m : List ByteArray) (h0 : 0 ≤ s) (h1 : s ≤ 4611686018427387904) (hl : l.length ≤ 140737488351232) (hm : 1 ≤ m.length) (hm2 : m.length ≤ 1000) (hg : ∀ r ∈ m, asciiT r = true ∧ r.size ≤ n) :
    ∃ r, Ev (fun k => pilemake_Stream_Some.f k l s m) (r, l, s + 1) ∧ GS n r := by
  obtain ⟨r, h, hr⟩ := Some_spec l s m h0 h1 hl hm hm2
  exact ⟨r, h, hg r hr⟩
theorem ext_le (x : ByteArray) (a b : Nat) : (x.extract a b).size ≤ x.size := by rw [ByteArray.size_extract]; omega
theorem Changed_fin (l : List Int) (s o : Int) (i X : Nat) (hi : i < X) (hX : X ≤ 1000000000) (A M Y Z : ByteArray) (hA : A.size ≤ 1000000000) (hM : M.size ≤ 1) (hY : Y.size ≤ 1000000000) (hZ : Z.size ≤ 1000000000) :
    ∃ r, (r = A ++ M ++ Y ∨ r = A ++ M ++ Z ∨ r = A ++ Y) ∧ Ev (fun k => (if o = 0 then (if 0 ≤ (i : Int) then (if (i : Int) ≤ (X : Int) then (if A.size + M.size ≤ 9223372036854775807 then (if 0 ≤ ((i + 1 : Nat) : Int) then (if ((i + 1 : Nat) : Int) ≤ (X : Int) then (if (A ++ M).size + Y.size ≤ 9223372036854775807 then Option.some ((A ++ M) ++ Y, l, s) else Option.none) else Option.none) else Option.none) else Option.none) else Option.none) else Option.none) else (if o = 1 then (if 0 ≤ (i : Int) then (if (i : Int) ≤ (X : Int) then (if A.size + M.size ≤ 9223372036854775807 then (if 0 ≤ (i : Int) then (if (i : Int) ≤ (X : Int) then (if (A ++ M).size + Z.size ≤ 9223372036854775807 then Option.some ((A ++ M) ++ Z, l, s) else Option.none) else Option.none) else Option.none) else Option.none) else Option.none) else Option.none) else (if 0 ≤ (i : Int) then (if (i : Int) ≤ (X : Int) then (if 0 ≤ ((i + 1 : Nat) : Int) then (if ((i + 1 : Nat) : Int) ≤ (X : Int) then (if A.size + Y.size ≤ 9223372036854775807 then Option.some (A ++ Y, l, s) else Option.none) else Option.none) else Option.none) else Option.none) else Option.none)))) (r, l, s) := by
  have e : (A ++ M).size = A.size + M.size := ByteArray.size_append
  rw [e]
  generalize A.size = a at hA
  generalize M.size = m at hM
  generalize Y.size = y at hY
  generalize Z.size = z at hZ
  clear e
  by_cases c1 : o = 0
  · exact ⟨_, .inl rfl, Ev.pos c1 (Ev.pos (by omega) (Ev.pos (by omega) (Ev.pos (by omega) (Ev.pos (by omega) (Ev.pos (by omega) (Ev.pos (by omega) (Ev.now _)))))))⟩
  · by_cases c2 : o = 1
    · exact ⟨_, .inr (.inl rfl), Ev.neg c1 (Ev.pos c2 (Ev.pos (by omega) (Ev.pos (by omega) (Ev.pos (by omega) (Ev.pos (by omega) (Ev.pos (by omega) (Ev.pos (by omega) (Ev.now _))))))))⟩
    · exact ⟨_, .inr (.inr rfl), Ev.neg c1 (Ev.neg c2 (Ev.pos (by omega) (Ev.pos (by omega) (Ev.pos (by omega) (Ev.pos (by omega) (Ev.pos (by omega) (Ev.now _)))))))⟩
theorem size_pos (y : ByteArray) (hy : ¬ y = (⟨#[]⟩ : ByteArray)) : 1 ≤ y.size := by
  rcases Nat.eq_zero_or_pos y.size with h | h
  · refine absurd ?_ hy
    apply ByteArray.ext
    apply Array.eq_empty_of_size_eq_zero
    exact h
  · exact h
theorem bt_enc (w : ByteArray) (hw : asciiT w = true) (d : Nat) (hd : d < w.size) : ∃ b : UInt8, Utf8.encode (IntKind.i32.wrap (bt w (d : Int))) = mk [b] ∧ asciiT (mk [b]) = true := by
  have hd : d < w.data.toList.length := by rw [Array.length_toList]; exact hd
  have hb : bt w (d : Int) = ((w.data.toList[d]).toNat : Int) := by
    conv => lhs; rw [mk_of w]
    rw [mk_bt _ d hd]
  have ha : (w.data.toList[d]).toNat < 128 := by
    unfold asciiT at hw
    rw [List.all_eq_true] at hw
    simpa using hw _ (List.getElem_mem hd)
  exact ⟨w.data.toList[d], by rw [hb]; exact enc_ascii _ ha, by rw [mk_ascii]; simpa using ha⟩
theorem Changed_GS (n : Nat) (l : List Int) (s : Int) (x w : ByteArray) (h0 : 0 ≤ s) (h1 : s ≤ 4611686018427387000) (hl : l.length ≤ 140737488351232) (hx : GS n x) (hn : n ≤ 100000000) (hw : GS 1000 w) (hw0 : ¬ w = (⟨#[]⟩ : ByteArray)) :
    ∃ r s', Ev (fun k => pilemake_Stream_Changed.f k l s x w) (r, l, s') ∧ (GS (n + 1 + n) r ∨ r = w) ∧ s ≤ s' ∧ s' ≤ s + 3 := by
  unfold pilemake_Stream_Changed.f
  by_cases c : x = (⟨#[]⟩ : ByteArray)
  · exact ⟨w, s, Ev.pos c (Ev.now _), .inr rfl, by omega, by omega⟩
  have sx := size_pos x c
  have sw := size_pos w hw0
  have hx2 := hx.2
  have hw2 := hw.2
  obtain ⟨i, ei, i0, i1⟩ := Next_spec l s (x.size : Int) h0 (by omega) (by omega) hl
  obtain ⟨d, ed, d0, d1⟩ := Next_spec l (s + 1) (w.size : Int) (by omega) (by omega) (by omega) hl
  obtain ⟨o, eo, o0, o1⟩ := Next_spec l (s + 1 + 1) 3 (by omega) (by omega) (by omega) hl
  have i2 := i1 (by omega)
  have d2 := d1 (by omega)
  clear i1 d1 o1
  obtain ⟨i, rfl⟩ : ∃ n : Nat, i = n := ⟨i.toNat, by omega⟩
  obtain ⟨d, rfl⟩ : ∃ n : Nat, d = n := ⟨d.toNat, by omega⟩
  obtain ⟨b, hb, ha⟩ := bt_enc w hw.1 d (by omega)
  have g1 : GS 1 (mk [b]) := ⟨ha, by rw [mk_size]; exact Nat.le_refl _⟩
  have w1 : wrap64 ((i : Int) + 1) = ((i + 1 : Nat) : Int) := wrap_succ (by omega)
  have gx : ∀ a b, GS n (x.extract a b) := fun a b => ⟨ascii_ext hx.1 a b, Nat.le_trans (ext_le x a b) hx.2⟩
  have zx : ∀ a b, (x.extract a b).size ≤ 1000000000 := fun a b => Nat.le_trans (ext_le x a b) (by omega)
  obtain ⟨r, h2, h3⟩ := Changed_fin l (s + 1 + 1 + 1) o i x.size (by omega) (by omega) (x.extract 0 i) (mk [b]) (x.extract (i + 1) x.size) (x.extract i x.size) (zx _ _) g1.2 (zx _ _) (zx _ _)
  refine ⟨r, s + 1 + 1 + 1, Ev.neg c (Ev.neg hw0 (Ev.bind ei (Ev.bind ed ?_))), .inl ?_, by omega, by omega⟩
  · refine Ev.pos d0 (Ev.pos d2 (Ev.bind eo ?_))
    simp only [hb, w1, Int.toNat_natCast]
    exact h3
  · rcases h2 with rfl | rfl | rfl
    · exact ((gx _ _).app g1).app (gx _ _)
    · exact ((gx _ _).app g1).app (gx _ _)
    · exact ((gx _ _).app (gx _ _)).mono (by omega)
end Go.EV.Pure
namespace Go.EV.Pure
open Go Go.EV Go.RowKit
set_option maxRecDepth 100000
theorem ready_ev : Ev (fun k => pilekeep1_ready.f k) true := Ev.from 300 fun k => (by kernel_rfl : pilekeep1_ready.f (k + 300) = some true)
end Go.EV.Pure
namespace Go.EV.Pure
open Go Go.EV Go.RowKit
end Go.EV.Pure
namespace Go.EV.Pure
open Go Go.EV Go.RowKit
set_option linter.unusedSimpArgs false
set_option maxRecDepth 100000
/-! The table of codes, words, and what can be said. -/
theorem index_hit (p rest : List UInt8) (h : (32 : UInt8) ∉ p) : Lib.index (p ++ 32 :: rest) [32] = (p.length : Int) := by
  induction p with
  | nil => simp [Lib.index, List.isPrefixOf]
  | cons b p ih =>
    have ih := ih (fun h' => h (by simp [h']))
    have hb : ¬ (32 : UInt8) = b := fun e => h (by simp [e])
    simp only [List.cons_append, Lib.index, List.isPrefixOf, beq_iff_eq, ih]
    have : ((32 : UInt8) == b) = false := by simpa using hb
    rw [this]
    simp <;> omega
theorem index_miss (p : List UInt8) (h : (32 : UInt8) ∉ p) : Lib.index p [32] = -1 := by
  induction p with
  | nil => simp [Lib.index]
  | cons b p ih =>
    have ih := ih (fun h' => h (by simp [h']))
    have hb : ¬ (32 : UInt8) = b := fun e => h (by simp [e])
    have : ((32 : UInt8) == b) = false := by simpa using hb
    simp only [Lib.index, List.isPrefixOf, ih, this]
    simp
def joinSp : List (List UInt8) → List UInt8
  | [] => []
  | [p] => p
  | p :: q :: r => p ++ 32 :: joinSp (q :: r)
theorem ext_head (p rest : List UInt8) : (mk (p ++ 32 :: rest)).extract 0 p.length = mk p := by
  rw [mk_extract]
  simp
theorem ext_tail (p rest : List UInt8) : (mk (p ++ 32 :: rest)).extract (p.length + 1) (mk (p ++ 32 :: rest)).size = mk rest := by
  rw [mk_extract, mk_size, List.take_length]
  congr 1
  rw [List.drop_append, List.drop_eq_nil_of_le (by omega), List.nil_append, Nat.add_sub_cancel_left]
  rfl
theorem split_all (sp : ByteArray) (hsp : sp = mk [32]) : ∀ (q : List UInt8) (r : List (List UInt8)), (∀ p ∈ q :: r, (32 : UInt8) ∉ p) → Lib.countB (mk (joinSp (q :: r))) sp = r.length ∧ Lib.splitB sp 0 r.length (mk (joinSp (q :: r))) = (q :: r).map mk
  | q, [], h => by
    subst hsp
    refine ⟨?_, rfl⟩
    exact Lib.countB_miss _ _ (index_miss q (h q (by simp)))
  | q, p :: r, h => by
    obtain ⟨h1, h2⟩ := split_all sp hsp p r (fun x hx => h x (by simp [List.mem_cons.1 hx]))
    subst hsp
    have hi : Lib.indexB (mk (joinSp (q :: p :: r))) (mk [32]) = ((q.length : Nat) : Int) := index_hit q _ (h q (by simp))
    have hs : (mk [32]).size = 1 := rfl
    have hj : joinSp (q :: p :: r) = q ++ 32 :: joinSp (p :: r) := rfl
    constructor
    · rw [Lib.countB_hit _ _ q.length (by rw [hs]; omega) hi, hs, hj, ext_tail, h1]
      simp
      omega
    · rw [List.length_cons, Lib.splitB_hit _ _ _ _ q.length hi, hs, hj, Nat.add_zero, ext_head, ext_tail, h2]
      rfl
theorem dec_at (p : List UInt8) (j : Nat) (h : j < p.length) (ha : p[j].toNat < 128) : Utf8.decode (mk p) j = (p[j].toNat, 1) :=
  decode_ascii (mk p) j (by rw [mk_size]; exact h) ha
/-- A text's words. -/
def wordsOf : List UInt8 → List (List UInt8)
  | [] => [[]]
  | b :: r => if b = 32 then [] :: wordsOf r else match wordsOf r with
    | [] => [[b]]
    | w :: q => (b :: w) :: q
theorem wordsOf_ne (p : List UInt8) : ∃ w q, wordsOf p = w :: q := by
  cases p with
  | nil => exact ⟨_, _, rfl⟩
  | cons b r =>
    unfold wordsOf
    split
    · exact ⟨_, _, rfl⟩
    · split
      · exact ⟨_, _, rfl⟩
      · exact ⟨_, _, rfl⟩
theorem joinSp_words : ∀ p : List UInt8, joinSp (wordsOf p) = p
  | [] => rfl
  | b :: r => by
    have ih := joinSp_words r
    obtain ⟨w, q, hw⟩ := wordsOf_ne r
    unfold wordsOf
    by_cases c : b = 32
    · rw [if_pos c, hw]
      rw [hw] at ih
      show [] ++ 32 :: joinSp (w :: q) = _
      rw [ih, c]; rfl
    · rw [if_neg c, hw]
      rw [hw] at ih
      cases q with
      | nil => show b :: w = _; rw [← ih]; rfl
      | cons x y => show (b :: w) ++ 32 :: joinSp (x :: y) = _; rw [← ih]; rfl
theorem words_no32 : ∀ (p : List UInt8), ∀ w ∈ wordsOf p, (32 : UInt8) ∉ w
  | [] => fun w hw => by
    have : w = [] := by simpa [wordsOf] using hw
    rw [this]; simp
  | b :: r => fun w hw => by
    have ih := words_no32 r
    obtain ⟨v, q, hv⟩ := wordsOf_ne r
    unfold wordsOf at hw
    by_cases c : b = 32
    · rw [if_pos c] at hw
      rcases List.mem_cons.1 hw with rfl | hw
      · simp
      · exact ih w hw
    · rw [if_neg c, hv] at hw
      rw [hv] at ih
      rcases List.mem_cons.1 hw with rfl | hw
      · intro hm
        rcases List.mem_cons.1 hm with h | h
        · exact c h.symm
        · exact ih v (by simp) h
      · exact ih w (by simp [hw])
theorem words_bytes : ∀ (p : List UInt8) (b : UInt8), b ≠ 32 → (b ∈ p ↔ ∃ w ∈ wordsOf p, b ∈ w)
  | [], b, hb => by simp [wordsOf]
  | a :: r, b, hb => by
    have ih := words_bytes r b hb
    obtain ⟨v, q, hv⟩ := wordsOf_ne r
    unfold wordsOf
    by_cases c : a = 32
    · rw [if_pos c]
      constructor
      · intro h
        rcases List.mem_cons.1 h with rfl | h
        · exact absurd c hb
        · obtain ⟨w, h1, h2⟩ := ih.1 h
          exact ⟨w, by simp [h1], h2⟩
      · rintro ⟨w, h1, h2⟩
        rcases List.mem_cons.1 h1 with rfl | h1
        · cases h2
        · exact List.mem_cons_of_mem _ (ih.2 ⟨w, h1, h2⟩)
    · rw [if_neg c, hv]
      rw [hv] at ih
      constructor
      · intro h
        rcases List.mem_cons.1 h with rfl | h
        · exact ⟨b :: v, by simp, by simp⟩
        · obtain ⟨w, h1, h2⟩ := ih.1 h
          rcases List.mem_cons.1 h1 with rfl | h1
          · exact ⟨a :: w, by simp, by simp [h2]⟩
          · exact ⟨w, by simp [h1], h2⟩
      · rintro ⟨w, h1, h2⟩
        rcases List.mem_cons.1 h1 with rfl | h1
        · rcases List.mem_cons.1 h2 with rfl | h2
          · simp
          · exact List.mem_cons_of_mem _ (ih.2 ⟨v, by simp, h2⟩)
        · exact List.mem_cons_of_mem _ (ih.2 ⟨w, by simp [h1], h2⟩)
theorem words_sum : ∀ p : List UInt8, ((wordsOf p).map fun w => w.length + 1).sum = p.length + 1
  | [] => rfl
  | b :: r => by
    have ih := words_sum r
    obtain ⟨v, q, hv⟩ := wordsOf_ne r
    unfold wordsOf
    by_cases c : b = 32
    · rw [if_pos c]
      simp only [List.map_cons, List.sum_cons, ih, List.length_cons, List.length_nil]
      omega
    · rw [if_neg c, hv]
      rw [hv] at ih
      simp only [List.map_cons, List.sum_cons, List.length_cons] at ih ⊢
      omega
theorem split_ev (p : List UInt8) (hp : p.length ≤ 1000000) : strings_Split.f (mk p) (⟨#[32]⟩ : ByteArray) = some ((wordsOf p).map mk) := by
  obtain ⟨w, q, hw⟩ := wordsOf_ne p
  have hj := joinSp_words p
  have hn := words_no32 p
  rw [hw] at hj hn ⊢
  obtain ⟨h1, h2⟩ := split_all (⟨#[32]⟩ : ByteArray) rfl w q hn
  rw [hj] at h1 h2
  unfold strings_Split.f
  rw [h1, h2, if_pos ⟨by rw [mk_size]; omega, by decide⟩]
def signsL : List UInt8 := [97, 98, 99, 100, 101, 102, 103, 104, 105, 106, 107, 108, 109, 110, 111, 112, 113, 114, 115, 116, 117, 118, 119, 120, 121, 122, 48, 49, 50, 51, 52, 53, 54, 55, 56, 57, 47, 63, 61, 43]
def codesL : List (List UInt8) := [[46, 45], [45, 46, 46, 46], [45, 46, 45, 46], [45, 46, 46], [46], [46, 46, 45, 46], [45, 45, 46], [46, 46, 46, 46], [46, 46], [46, 45, 45, 45], [45, 46, 45], [46, 45, 46, 46], [45, 45], [45, 46], [45, 45, 45], [46, 45, 45, 46], [45, 45, 46, 45], [46, 45, 46], [46, 46, 46], [45], [46, 46, 45], [46, 46, 46, 45], [46, 45, 45], [45, 46, 46, 45], [45, 46, 45, 45], [45, 45, 46, 46], [45, 45, 45, 45, 45], [46, 45, 45, 45, 45], [46, 46, 45, 45, 45], [46, 46, 46, 45, 45], [46, 46, 46, 46, 45], [46, 46, 46, 46, 46], [45, 46, 46, 46, 46], [45, 45, 46, 46, 46], [45, 45, 45, 46, 46], [45, 45, 45, 45, 46], [45, 46, 46, 45, 46], [46, 46, 45, 45, 46, 46], [45, 46, 46, 46, 45], [46, 45, 46, 45, 46]]
/-- A byte's place among the signs; 40: it is none. -/
def placeN (b : UInt8) : Nat := signsL.findIdx (· == b)
def isSign (b : UInt8) : Bool := Nat.blt (placeN b) 40
/-- The code of a byte; empty: it is no sign. -/
def codeL (b : UInt8) : List UInt8 := codesL.getD (placeN b) []
theorem code_facts : ∀ b : UInt8, (isSign b = true → codeL b ≠ []) ∧ (isSign b = false → codeL b = []) ∧ (codeL b).length ≤ 6 ∧ (∀ c ∈ codeL b, c.toNat < 128) ∧ isSign b = signsL.contains b ∧ (isSign b = true → b.toNat < 128 ∧ b ≠ 32) := all_bytes (by decide +kernel)
theorem indexByte_find (c : UInt8) : ∀ p : List UInt8, c ∈ p → Lib.indexByte p c = (p.findIdx (· == c) : Nat)
  | [], h => by cases h
  | b :: r, h => by
    rw [Lib.indexByte, List.findIdx_cons]
    by_cases e : (b == c) = true
    · rw [if_pos e, e]; rfl
    · have e' : (b == c) = false := by simpa using e
      have hm : c ∈ r := by
        rcases List.mem_cons.1 h with h | h
        · exact absurd (by simp [h]) e
        · exact h
      have ih := indexByte_find c r hm
      rw [if_neg e, e', ih]
      have : (((List.findIdx (fun x => x == c) r : Nat) : Int) == -1) = false := by simp
      rw [this]
      simp
def byL : List (Int × ByteArray) := (signsL.zip codesL).map fun x => ((x.1.toNat : Int), mk x.2)
theorem byBytes_ev : Ev (fun k => key_byBytes.f k) byL := Ev.from 100 fun k => (by kernel_rfl : key_byBytes.f (k + 100) = some byL)
theorem mget_by : ∀ b : UInt8, mget (ByteArray.empty : ByteArray) byL (b.toNat : Int) = mk (codeL b) := all_bytes (by decide +kernel)
end Go.EV.Pure
namespace Go.EV.Pure
open Go Go.EV Go.RowKit
set_option linter.unusedSimpArgs false
set_option maxRecDepth 100000
/-! What can be said: both faults are the same. -/
def badW (p : List UInt8) : Bool := (wordsOf p).any List.isEmpty
def allS (p : List UInt8) : Bool := (wordsOf p).all fun w => w.all isSign
def saidF (p : List UInt8) : Int := if p.length > 500 then 2 else if badW p = true then 3 else if allS p = true then 0 else 3
theorem mk_nil (w : List UInt8) : mk w = (⟨#[]⟩ : ByteArray) ↔ w.isEmpty = true := by
  have : (⟨#[]⟩ : ByteArray) = mk [] := rfl
  rw [this, mk_inj]; simp
theorem Words_ev (p : List UInt8) (hp : p.length ≤ 1000000) : Ev (fun k => kit_Words.f k (mk p)) (if badW p = true then ([], false) else ((wordsOf p).map mk, true)) := by
  have hlen : (wordsOf p).length ≤ p.length + 1 := by
    rw [← words_sum p]
    have : ∀ l : List (List UInt8), l.length ≤ (l.map fun w => w.length + 1).sum := by
      intro l
      induction l with
      | nil => simp
      | cons a l ih => simp; omega
    exact this _
  unfold kit_Words.f
  simp only [split_ev p hp, Option.bind_some]
  obtain ⟨v, hv, he⟩ := loop (wordsOf p) (fun k i (_ : Unit) => kit_Words.l0 k ((wordsOf p).map mk) ((wordsOf p).map mk) (((wordsOf p).map mk).length : Int) i)
    (fun i _ => ((wordsOf p).take i).any List.isEmpty = false) (fun v => v = if badW p = true then ([], false) else ((wordsOf p).map mk, true))
    (fun i s hi hI => by
      have hr : rdE eS ((wordsOf p).map mk) (i : Int) = mk (wordsOf p)[i] := by rw [rdE_get eS _ i (by simpa using hi)]; simp
      have hl : ((wordsOf p).map mk).length = (wordsOf p).length := by simp
      by_cases c : (wordsOf p)[i].isEmpty = true
      · refine .inr ⟨([], false), ?_, Ev.succ ?_⟩
        · rw [if_pos]
          unfold badW
          rw [List.any_eq_true]
          exact ⟨_, List.getElem_mem hi, c⟩
        · simp only [kit_Words.l0, hr, hl]
          exact Ev.pos (by omega) (Ev.pos (by omega) (Ev.pos (by omega) (Ev.pos ((mk_nil _).2 c) (Ev.now _))))
      · refine .inl ⟨(), ?_, fun v hv => Ev.succ ?_⟩
        · rw [List.take_succ_eq_append_getElem hi, List.any_append, hI]
          simpa using c
        · simp only [kit_Words.l0, hr, hl, wrap_succ (show i ≤ 1000000000000000 by omega)]
          refine Ev.pos (by omega) (Ev.pos (by omega) (Ev.pos (by omega) (Ev.neg (fun h => c ((mk_nil _).1 h)) ?_)))
          simpa only [hl] using hv)
    (fun s hI => ⟨((wordsOf p).map mk, true), by
      rw [List.take_length] at hI
      rw [if_neg]
      unfold badW
      rw [hI]; simp, Ev.step (f := fun _ => some _) (fun k => by simp only [kit_Words.l0, List.length_map]; rw [if_neg (by omega)]) (Ev.now _)⟩) 0 () (by omega) (by simp)
  rw [hv] at he
  exact he
theorem drop_all {w : List UInt8} {j : Nat} (hj : j < w.length) : (w.drop j).all isSign = (isSign w[j] && (w.drop (j + 1)).all isSign) := by
  rw [List.drop_eq_getElem_cons hj, List.all_cons]
theorem CheckWord_ev (W : List ByteArray) (n : Int) (i : Nat) (w : List UInt8) (hw : rdE eS W (i : Int) = mk w) (hl : w.length ≤ 1000000) (hi : i ≤ 1000000) (v : Int) (d : Nat) :
    ∀ j : Nat, j + d = w.length → ((w.drop j).all isSign = true → Ev (fun k => key_CheckSaid.l0 k W n ((i + 1 : Nat) : Int) byL) v) → ((w.drop j).all isSign = false → v = 3) → Ev (fun k => key_CheckSaid.l1 k W n (i : Int) byL (j : Int)) v := by
  have hs := mk_size w
  induction d with
  | zero =>
    intro j hj h1 _
    refine Ev.succ ?_
    simp only [key_CheckSaid.l1, hw, hs, wrap_succ (show i ≤ 1000000000000000 by omega)]
    exact Ev.neg (by omega) (h1 (by rw [List.drop_eq_nil_of_le (by omega)]; rfl))
  | succ d ih =>
    intro j hj h1 h2
    have hjl : j < w.length := by omega
    have hb := mk_bt w j hjl
    have hd := drop_all hjl
    obtain ⟨f1, f2, _⟩ := code_facts w[j]
    refine Ev.succ ?_
    simp only [key_CheckSaid.l1, hw, hs, hb, mget_by, wrap_succ (show j ≤ 1000000000000000 by omega)]
    refine Ev.pos (by omega) (Ev.pos (by omega) (Ev.pos (by omega) ?_))
    by_cases c : isSign w[j] = true
    · have hn : ¬ mk (codeL w[j]) = (⟨#[]⟩ : ByteArray) := fun h => f1 c (by simpa using (mk_nil _).1 h)
      rw [c, Bool.true_and] at hd
      exact Ev.neg hn (ih (j + 1) (by omega) (fun h => h1 (by rw [hd]; exact h)) (fun h => h2 (by rw [hd]; exact h)))
    · have cf : isSign w[j] = false := by simpa using c
      rw [cf, Bool.false_and] at hd
      rw [h2 hd]
      exact Ev.pos ((mk_nil _).2 (by rw [f2 cf]; rfl)) (Ev.now _)
theorem CheckSaid_ev (p : List UInt8) (hp : p.length ≤ 1000000) : Ev (fun k => key_CheckSaid.f k (mk p)) (saidF p) := by
  have hs := mk_size p
  unfold key_CheckSaid.f saidF
  by_cases c0 : p.length > 500
  · rw [if_pos c0]; exact Ev.pos (by rw [hs]; omega) (Ev.now _)
  rw [if_neg c0]
  refine Ev.neg (by rw [hs]; omega) ?_
  have eW := Words_ev p hp
  by_cases c1 : badW p = true
  · rw [if_pos c1] at eW
    rw [if_pos c1]
    exact Ev.bind eW (Ev.neg (by simp) (Ev.now _))
  rw [if_neg c1] at eW
  rw [if_neg c1]
  refine Ev.bind eW (Ev.pos rfl (Ev.bind byBytes_ev ?_))
  have hsum := words_sum p
  have hwl : ∀ w ∈ wordsOf p, w.length ≤ p.length := fun w hw => by
    have : ∀ (l : List (List UInt8)), w ∈ l → w.length + 1 ≤ (l.map fun w => w.length + 1).sum := by
      intro l
      induction l with
      | nil => intro h; cases h
      | cons a l ih =>
        intro h
        simp only [List.map_cons, List.sum_cons]
        rcases List.mem_cons.1 h with rfl | h
        · omega
        · have := ih h; omega
    have := this _ hw
    omega
  have hlen : (wordsOf p).length ≤ p.length + 1 := by
    rw [← words_sum p]
    have : ∀ l : List (List UInt8), l.length ≤ (l.map fun w => w.length + 1).sum := by
      intro l
      induction l with
      | nil => simp
      | cons a l ih => simp; omega
    exact this _
  have hl : ((wordsOf p).map mk).length = (wordsOf p).length := by simp
  obtain ⟨v, hv, he⟩ := loop (wordsOf p) (fun k i (_ : Unit) => key_CheckSaid.l0 k ((wordsOf p).map mk) (((wordsOf p).map mk).length : Int) i byL)
    (fun i _ => ((wordsOf p).take i).all (fun w => w.all isSign) = true) (fun v => v = if allS p = true then 0 else 3)
    (fun i s hi hI => by
      have hr : rdE eS ((wordsOf p).map mk) (i : Int) = mk (wordsOf p)[i] := by rw [rdE_get eS _ i (by simpa using hi)]; simp
      have hwi := hwl _ (List.getElem_mem hi)
      by_cases c : (wordsOf p)[i].all isSign = true
      · refine .inl ⟨(), ?_, fun v hv => Ev.succ ?_⟩
        · rw [List.take_succ_eq_append_getElem hi, List.all_append, hI]
          simpa using c
        · simp only [key_CheckSaid.l0, hl]
          refine Ev.pos (by omega) (Ev.pos (by omega) (Ev.pos (by omega) ?_))
          rw [hl] at hv
          exact CheckWord_ev _ _ i _ hr (by omega) (by omega) v (wordsOf p)[i].length 0 (by omega) (fun _ => hv) (fun h => by
            have : (List.drop 0 (wordsOf p)[i]).all isSign = true := c
            rw [this] at h; cases h)
      · refine .inr ⟨3, ?_, Ev.succ ?_⟩
        · rw [if_neg]
          intro h
          unfold allS at h
          rw [List.all_eq_true] at h
          exact c (h _ (List.getElem_mem hi))
        · simp only [key_CheckSaid.l0, hl]
          refine Ev.pos (by omega) (Ev.pos (by omega) (Ev.pos (by omega) ?_))
          exact CheckWord_ev _ _ i _ hr (by omega) (by omega) 3 (wordsOf p)[i].length 0 (by omega) (fun h => absurd h c) (fun _ => rfl))
    (fun s hI => ⟨0, by
      rw [List.take_length] at hI
      rw [if_pos]
      exact hI, Ev.step (f := fun _ => some _) (fun k => by simp only [key_CheckSaid.l0, List.length_map]; rw [if_neg (by omega)]) (Ev.now _)⟩) 0 () (by omega) (by simp)
  rw [hv] at he
  exact he
theorem has_signsp : ∀ b : UInt8, (signsL ++ [32]).contains b = (isSign b || b == 32) := all_bytes (by decide +kernel)
theorem signsp_eq : str_0 = mk (signsL ++ [32]) := rfl
theorem all_signs (p : List UInt8) : allS p = p.all fun b => isSign b || b == 32 := by
  rw [Bool.eq_iff_iff, allS, List.all_eq_true, List.all_eq_true]
  constructor
  · intro h b hb
    by_cases c : b = 32
    · simp [c]
    · obtain ⟨w, h1, h2⟩ := (words_bytes p b c).1 hb
      have := h w h1
      rw [List.all_eq_true] at this
      rw [this b h2]; rfl
  · intro h w hw
    rw [List.all_eq_true]
    intro b hb
    have h32 : b ≠ 32 := fun e => words_no32 p w hw (e ▸ hb)
    have := h b ((words_bytes p b h32).2 ⟨w, hw, hb⟩)
    simpa [h32] using this
theorem crune (b : UInt8) (h : (isSign b || b == 32) = true) : pileref1_SaidFault_1.f (b.toNat : Int) = some false := by
  have hf : ∀ b : UInt8, (isSign b || b == 32) = true → b.toNat < 128 ∧ b ∈ signsL ++ [32] := fun b h => by
    have h1 := has_signsp b
    rw [h] at h1
    refine ⟨?_, by simpa using h1⟩
    rcases Bool.or_eq_true _ _ |>.mp h with h | h
    · exact ((code_facts b).2.2.2.2.2 h).1
    · have : b = 32 := by simpa using h
      rw [this]; decide
  obtain ⟨h1, h2⟩ := hf b h
  unfold pileref1_SaidFault_1.f strings_ContainsRune.f
  have e2 : ((b.toNat : Int)).toNat.toUInt8 = b := by simp
  rw [if_pos (by omega), signsp_eq, mk_data, e2, indexByte_find b _ h2]
  rfl
theorem SaidIdx_ev (p : List UInt8) (hp : p.length ≤ 1000000) (h : (p.all fun b => isSign b || b == 32) = true) (d : Nat) : ∀ j : Nat, j + d = p.length → Ev (fun k => strings_indexFunc_of_pileref1_SaidFault_1.l0 k (mk p) true j) (-1) := by
  have hs := mk_size p
  rw [List.all_eq_true] at h
  induction d with
  | zero =>
    intro j hj
    refine Ev.step (f := fun _ => some _) (fun k => ?_) (Ev.now _)
    simp only [strings_indexFunc_of_pileref1_SaidFault_1.l0, hs]
    rw [if_neg (by omega)]
  | succ d ih =>
    intro j hj
    have hjl : j < p.length := by omega
    have hb := h _ (List.getElem_mem hjl)
    have ha : (p[j]).toNat < 128 := by
      rcases Bool.or_eq_true _ _ |>.mp hb with h | h
      · exact ((code_facts _).2.2.2.2.2 h).1
      · have : p[j] = 32 := eq_of_beq h
        rw [this]; decide
    have hdec := dec_at p j hjl ha
    refine Ev.succ ?_
    simp only [strings_indexFunc_of_pileref1_SaidFault_1.l0, hdec, hs, crune _ hb, Option.bind_some]
    exact Ev.pos hjl (Ev.neg (by simp) (ih (j + 1) (by omega)))
theorem HasE_ev (W : List (List UInt8)) (hW : W.length ≤ 1000000) : Ev (fun k => slices_Contains_string_string.f k (W.map mk) (⟨#[]⟩ : ByteArray)) (W.any List.isEmpty) := by
  have hl : (W.map mk).length = W.length := by simp
  obtain ⟨v, hv, he⟩ := loop W (fun k i (_ : Unit) => slices_Index_string_string.l0 k (W.map mk) (⟨#[]⟩ : ByteArray) i)
    (fun i _ => (W.take i).any List.isEmpty = false) (fun v => decide (v ≥ 0) = W.any List.isEmpty)
    (fun i s hi hI => by
      have hr : rdE eS (W.map mk) (i : Int) = mk W[i] := by rw [rdE_get eS _ i (by simpa using hi)]; simp
      by_cases c : W[i].isEmpty = true
      · refine .inr ⟨i, ?_, Ev.succ ?_⟩
        · have : W.any List.isEmpty = true := by rw [List.any_eq_true]; exact ⟨_, List.getElem_mem hi, c⟩
          rw [this]; simp
        · simp only [slices_Index_string_string.l0, hr, hl]
          exact Ev.pos (by omega) (Ev.pos (by omega) (Ev.pos (by omega) (Ev.pos ((mk_nil _).2 c).symm (Ev.now _))))
      · refine .inl ⟨(), ?_, fun v hv => Ev.succ ?_⟩
        · rw [List.take_succ_eq_append_getElem hi, List.any_append, hI]
          simpa using c
        · simp only [slices_Index_string_string.l0, hr, hl, wrap_succ (show i ≤ 1000000000000000 by omega)]
          exact Ev.pos (by omega) (Ev.pos (by omega) (Ev.pos (by omega) (Ev.neg (fun h => c ((mk_nil _).1 h.symm)) hv))))
    (fun s hI => ⟨-1, by
      rw [List.take_length] at hI
      rw [hI]; rfl, Ev.step (f := fun _ => some _) (fun k => by simp only [slices_Index_string_string.l0, hl]; rw [if_neg (by omega)]) (Ev.now _)⟩) 0 () (by omega) (by simp)
  unfold slices_Contains_string_string.f slices_Index_string_string.f
  refine Ev.bind he ?_
  rw [hv]
  exact Ev.now _
theorem SaidFault_ev (p : List UInt8) (hp : p.length ≤ 1000000) : Ev (fun k => pileref1_SaidFault.f k (mk p)) (saidF p) := by
  have hs := mk_size p
  unfold pileref1_SaidFault.f saidF
  by_cases c0 : p.length > 500
  · rw [if_pos c0]; exact Ev.pos (by rw [hs]; omega) (Ev.now _)
  rw [if_neg c0]
  refine Ev.neg (by rw [hs]; omega) ?_
  by_cases c1 : p = []
  · have hb : badW p = true := by rw [c1]; decide
    rw [if_pos hb]
    exact Ev.pos ((mk_nil _).2 (by rw [c1]; rfl)) (Ev.now _)
  refine Ev.neg (fun h => c1 (by simpa using (mk_nil _).1 h)) ?_
  have hts : asciiT str_0 = true := by decide +kernel
  have htz : str_0.size < 4294967281 := by decide +kernel
  have ht : strings_Trim.f (mk p) str_0 = some (mk (Lib.trimS p (signsL ++ [32]))) := by
    unfold strings_Trim.f
    rw [if_pos ⟨by rw [hs]; omega, htz, hts⟩, mk_data, signsp_eq, mk_data]
    rfl
  simp only [ht, Option.bind_some]
  have hn : mk (Lib.trimS p (signsL ++ [32])) = (⟨#[]⟩ : ByteArray) ↔ allS p = true := by
    have : (⟨#[]⟩ : ByteArray) = mk [] := rfl
    rw [this, mk_inj, trimS_nil, all_signs, List.all_eq_true]
    constructor
    · intro h b hb; rw [← has_signsp]; exact h b hb
    · intro h b hb; rw [has_signsp]; exact h b hb
  have hlen : (wordsOf p).length ≤ p.length + 1 := by
    rw [← words_sum p]
    have : ∀ l : List (List UInt8), l.length ≤ (l.map fun w => w.length + 1).sum := by
      intro l
      induction l with
      | nil => simp
      | cons a l ih => simp; omega
    exact this _
  by_cases c2 : allS p = true
  · rw [if_pos c2]
    refine Ev.pos (hn.2 c2) ?_
    have hc : Ev (fun k => strings_ContainsFunc_of_pileref1_SaidFault_1.f k (mk p)) false :=
      Ev.bind (Ev.bind (SaidIdx_ev p hp (by rw [← all_signs]; exact c2) p.length 0 (by omega)) (Ev.now _)) (Ev.now _)
    refine Ev.bind hc (Ev.neg (by simp) ?_)
    simp only [split_ev p hp, Option.bind_some]
    refine Ev.bind (HasE_ev (wordsOf p) (by omega)) ?_
    by_cases c3 : badW p = true
    · rw [if_pos c3]; exact Ev.pos c3 (Ev.now _)
    · rw [if_neg c3]; exact Ev.neg c3 (Ev.now _)
  · rw [if_neg c2]
    have : (if badW p = true then (3 : Int) else 3) = 3 := by split <;> rfl
    rw [this]
    exact Ev.neg (fun h => c2 (hn.1 h)) (Ev.now _)
end Go.EV.Pure
namespace Go.EV.Pure
open Go Go.EV Go.RowKit
set_option linter.unusedSimpArgs false
set_option maxRecDepth 100000
/-! Marks and gaps: what is keyed, in both ways. -/
def mrk (u : Int) (c : UInt8) : Int := if c = 45 then 3 * u else u
def tailE (u : Int) (l : List UInt8) : List Int := l.flatMap fun c => [u, mrk u c]
def elE (u : Int) : List UInt8 → List Int
  | [] => []
  | a :: r => mrk u a :: tailE u r
def tailW (u s : Int) (l : List UInt8) : List Int := l.flatMap fun b => 3 * s :: elE u (codeL b)
def elW (u s : Int) : List UInt8 → List Int
  | [] => []
  | a :: r => elE u (codeL a) ++ tailW u s r
def tailT (u s : Int) (l : List (List UInt8)) : List Int := l.flatMap fun w => 7 * s :: elW u s w
def elT (u s : Int) : List (List UInt8) → List Int
  | [] => []
  | a :: r => elW u s a ++ tailT u s r
theorem elE_len (u : Int) (c : List UInt8) : (elE u c).length ≤ 2 * c.length := by
  cases c with
  | nil => simp [elE]
  | cons a r =>
    have : (tailE u r).length = 2 * r.length := by
      unfold tailE
      induction r with
      | nil => rfl
      | cons b r ih => simp only [List.flatMap_cons, List.length_append, ih, List.length_cons, List.length_nil]; omega
    simp only [elE, List.length_cons, this]
    omega
theorem elC_len (u : Int) (b : UInt8) : (elE u (codeL b)).length ≤ 12 := by
  have := elE_len u (codeL b)
  have := (code_facts b).2.2.1
  omega
theorem elW_len (u s : Int) (w : List UInt8) : (elW u s w).length ≤ 13 * w.length := by
  cases w with
  | nil => simp [elW]
  | cons a r =>
    have : (tailW u s r).length ≤ 13 * r.length := by
      unfold tailW
      induction r with
      | nil => exact Nat.le_refl _
      | cons b r ih => have := elC_len u b; simp only [List.flatMap_cons, List.length_append, List.length_cons]; omega
    have := elC_len u a
    simp only [elW, List.length_append, List.length_cons]
    omega
theorem elT_len (u s : Int) (W : List (List UInt8)) : (elT u s W).length ≤ 13 * (W.map fun w => w.length + 1).sum := by
  cases W with
  | nil => simp [elT]
  | cons a r =>
    have : (tailT u s r).length ≤ 13 * (r.map fun w => w.length + 1).sum := by
      unfold tailT
      induction r with
      | nil => exact Nat.le_refl _
      | cons b r ih => have := elW_len u s b; simp only [List.flatMap_cons, List.length_append, List.length_cons, List.map_cons, List.sum_cons]; omega
    have := elW_len u s a
    simp only [elT, List.length_append, List.map_cons, List.sum_cons]
    omega
def codesW (w : List UInt8) : List ByteArray := w.map fun b => mk (codeL b)
theorem words_ev (p : List UInt8) (hp : p.length ≤ 1000) : Ev (fun k => key_words.f k (mk p)) ((wordsOf p).map codesW) := by
  have hsum := words_sum p
  have hwl : ∀ w ∈ wordsOf p, w.length ≤ p.length := fun w hw => by
    have : ∀ (l : List (List UInt8)), w ∈ l → w.length + 1 ≤ (l.map fun w => w.length + 1).sum := by
      intro l
      induction l with
      | nil => intro h; cases h
      | cons a l ih =>
        intro h
        simp only [List.map_cons, List.sum_cons]
        rcases List.mem_cons.1 h with rfl | h
        · omega
        · have := ih h; omega
    have := this _ hw
    omega
  have hlen : (wordsOf p).length ≤ p.length + 1 := by
    rw [← words_sum p]
    have : ∀ l : List (List UInt8), l.length ≤ (l.map fun w => w.length + 1).sum := by
      intro l
      induction l with
      | nil => simp
      | cons a l ih => simp; omega
    exact this _
  unfold key_words.f
  refine Ev.bind byBytes_ev ?_
  simp only [split_ev p (by omega), Option.bind_some]
  have hl : ((wordsOf p).map mk).length = (wordsOf p).length := by simp
  have inner : ∀ (i : Nat) (w : List UInt8) (o : List (List ByteArray)) (v : List (List ByteArray)), rdE eS ((wordsOf p).map mk) (i : Int) = mk w → w.length ≤ 1000 → o.length ≤ 2000 → i ≤ 2000 →
      Ev (fun k => key_words.l0 k ((wordsOf p).map mk) (((wordsOf p).map mk).length : Int) ((i + 1 : Nat) : Int) (o ++ [codesW w]) byL) v →
      ∀ (d j : Nat), j + d = w.length → Ev (fun k => key_words.l1 k ((wordsOf p).map mk) (((wordsOf p).map mk).length : Int) (i : Int) o byL (j : Int) (codesW (w.take j))) v := by
    intro i w o v hw hwl ho hi hv d
    have hs := mk_size w
    induction d with
    | zero =>
      intro j hj
      refine Ev.succ ?_
      simp only [key_words.l1, hw, hs, wrap_succ (show i ≤ 1000000000000000 by omega)]
      rw [show w.take j = w from List.take_of_length_le (by omega)]
      exact Ev.neg (by omega) (Ev.pos (by omega) hv)
    | succ d ih =>
      intro j hj
      have hjl : j < w.length := by omega
      have hb := mk_bt w j hjl
      have ht : codesW (w.take (j + 1)) = codesW (w.take j) ++ [mk (codeL w[j])] := by rw [List.take_succ_eq_append_getElem hjl]; simp only [codesW, List.map_append, List.map_cons, List.map_nil]
      have hlt : (codesW (w.take j)).length ≤ 1000 := by simp [codesW]; omega
      have := ih (j + 1) (by omega)
      rw [ht] at this
      refine Ev.succ ?_
      simp only [key_words.l1, hw, hs, hb, mget_by, wrap_succ (show j ≤ 1000000000000000 by omega)]
      exact Ev.pos (by omega) (Ev.pos (by omega) (Ev.pos (by omega) (Ev.pos (by omega) this)))
  obtain ⟨v, hv, he⟩ := loop (wordsOf p) (fun k i (o : List (List ByteArray)) => key_words.l0 k ((wordsOf p).map mk) (((wordsOf p).map mk).length : Int) i o byL)
    (fun i o => o = ((wordsOf p).take i).map codesW) (fun v => v = (wordsOf p).map codesW)
    (fun i o hi ho => .inl (by
      have hr : rdE eS ((wordsOf p).map mk) (i : Int) = mk (wordsOf p)[i] := by rw [rdE_get eS _ i (by simpa using hi)]; simp
      have hwi := hwl _ (List.getElem_mem hi)
      have ht : ((wordsOf p).take (i + 1)).map codesW = o ++ [codesW (wordsOf p)[i]] := by rw [List.take_succ_eq_append_getElem hi, ho]; simp only [List.map_append, List.map_cons, List.map_nil]
      refine ⟨_, rfl, fun v hv => Ev.succ ?_⟩
      rw [ht] at hv
      simp only [key_words.l0]
      refine Ev.pos (by omega) (Ev.pos (by omega) (Ev.pos (by omega) ?_))
      exact inner i _ o v hr (by omega) (by rw [ho]; simp; omega) (by omega) hv (wordsOf p)[i].length 0 (by omega)))
    (fun o ho => ⟨o, by rw [ho, List.take_length], Ev.step (f := fun _ => some _) (fun k => by simp only [key_words.l0]; rw [if_neg (by omega)]) (Ev.now _)⟩) 0 [] (by omega) (by simp)
  rw [hv] at he
  exact he
def appE (u : Int) (n : Nat) (c : List UInt8) : List Int := if n = 0 then elE u c else tailE u (c.drop n)
def appW (u s : Int) (n : Nat) (c : List UInt8) : List Int := if n = 0 then elW u s c else tailW u s (c.drop n)
def appT (u s : Int) (n : Nat) (c : List (List UInt8)) : List Int := if n = 0 then elT u s c else tailT u s (c.drop n)
theorem appE_step (u : Int) (n : Nat) (c : List UInt8) (h : n < c.length) : appE u n c = (if n = 0 then [] else [u]) ++ [mrk u c[n]] ++ appE u (n + 1) c := by
  unfold appE
  cases n with
  | zero =>
    cases c with
    | nil => cases h
    | cons a r => simp [elE]
  | succ n => simp only [Nat.add_one_ne_zero, if_false]; rw [List.drop_eq_getElem_cons h]; rfl
theorem appW_step (u s : Int) (n : Nat) (c : List UInt8) (h : n < c.length) : appW u s n c = (if n = 0 then [] else [3 * s]) ++ elE u (codeL c[n]) ++ appW u s (n + 1) c := by
  unfold appW
  cases n with
  | zero =>
    cases c with
    | nil => cases h
    | cons a r => simp [elW]
  | succ n => simp only [Nat.add_one_ne_zero, if_false]; rw [List.drop_eq_getElem_cons h]; rfl
theorem appT_step (u s : Int) (n : Nat) (c : List (List UInt8)) (h : n < c.length) : appT u s n c = (if n = 0 then [] else [7 * s]) ++ elW u s c[n] ++ appT u s (n + 1) c := by
  unfold appT
  cases n with
  | zero =>
    cases c with
    | nil => cases h
    | cons a r => simp [elT]
  | succ n => simp only [Nat.add_one_ne_zero, if_false]; rw [List.drop_eq_getElem_cons h]; rfl
theorem appE_end (u : Int) (c : List UInt8) : appE u c.length c = [] := by
  unfold appE
  split
  · rename_i h
    have : c = [] := List.eq_nil_of_length_eq_zero h
    subst this; rfl
  · simp [tailE]
theorem appW_end (u s : Int) (c : List UInt8) : appW u s c.length c = [] := by
  unfold appW
  split
  · rename_i h
    have : c = [] := List.eq_nil_of_length_eq_zero h
    subst this; rfl
  · simp [tailW]
theorem appT_end (u s : Int) (c : List (List UInt8)) : appT u s c.length c = [] := by
  unfold appT
  split
  · rename_i h
    have : c = [] := List.eq_nil_of_length_eq_zero h
    subst this; rfl
  · simp [tailT]
theorem lenE (u s : Int) (X : List (List ByteArray)) (n : Int) (i k : Nat) (c : List UInt8) (hc : rdE eS (rdE e_L X (i : Int)) (k : Int) = mk c) (hu : 0 ≤ u ∧ u ≤ 2000) (hk : k ≤ 2000) (hcl : c.length ≤ 100) (F : List Int) (hF : F.length ≤ 1000000) (v : List Int)
    (hv : Ev (fun k' => key_lengths.l1 k' u s X n (i : Int) ((k + 1 : Nat) : Int) F) v) (d : Nat) :
    ∀ (j : Nat) (o : List Int), j + d = c.length → o ++ appE u j c = F → Ev (fun k' => key_lengths.l2 k' u s X n (i : Int) (k : Int) (j : Int) o) v := by
  have hs := mk_size c
  induction d with
  | zero =>
    intro j o hj hF2
    have : j = c.length := by omega
    subst this
    rw [appE_end, List.append_nil] at hF2
    subst hF2
    refine Ev.succ ?_
    simp only [key_lengths.l2, hc, hs, wrap_succ (show k ≤ 1000000000000000 by omega)]
    exact Ev.neg (by omega) hv
  | succ d ih =>
    intro j o hj hF2
    have hjl : j < c.length := by omega
    have hb := mk_bt c j hjl
    rw [appE_step u j c hjl] at hF2
    have j17 : ∀ o2, o2 ++ [mrk u c[j]] ++ appE u (j + 1) c = F → Ev (fun k' => key_lengths.j17 k' u s X n (i : Int) (k : Int) (j : Int) o2) v := by
      intro o2 h2
      have hl : o2.length + 1 ≤ 1000000 := by rw [← h2] at hF; simp at hF; omega
      have := ih (j + 1) (o2 ++ [mrk u c[j]]) (by omega) h2
      have j20 : ∀ x, x = mrk u c[j] → Ev (fun k' => key_lengths.j20 k' u s X n (i : Int) (k : Int) (j : Int) o2 x) v := by
        intro x hx
        subst hx
        refine Ev.succ ?_
        simp only [key_lengths.j20, wrap_succ (show j ≤ 1000000000000000 by omega)]
        exact Ev.pos (by omega) this
      refine Ev.succ ?_
      simp only [key_lengths.j17, hc, hs, hb]
      refine Ev.pos (by omega) (Ev.pos (by omega) ?_)
      by_cases c45 : ((c[j]).toNat : Int) = 45
      · refine Ev.pos c45 (j20 _ ?_)
        have : c[j] = 45 := by
          apply UInt8.toNat_inj.1
          have h45 : (45 : UInt8).toNat = 45 := rfl
          omega
        rw [wrap_id (by omega) (by omega), mrk, if_pos this]; omega
      · refine Ev.neg c45 (j20 _ ?_)
        rw [mrk, if_neg]
        intro h
        rw [h] at c45
        exact c45 rfl
    refine Ev.succ ?_
    simp only [key_lengths.l2, hc, hs]
    refine Ev.pos (by omega) ?_
    by_cases c0 : j = 0
    · rw [if_pos c0, List.nil_append] at hF2
      exact Ev.neg (by omega) (j17 o (by simpa using hF2))
    · rw [if_neg c0] at hF2
      have hl : o.length + 1 ≤ 1000000 := by rw [← hF2] at hF; simp at hF; omega
      exact Ev.pos (by omega) (Ev.pos (by omega) (j17 (o ++ [u]) (by simpa using hF2)))
theorem lenW (u s : Int) (X : List (List ByteArray)) (n : Int) (i : Nat) (w : List UInt8) (hw : rdE e_L X (i : Int) = codesW w) (hu : 0 ≤ u ∧ u ≤ 2000) (hs : 0 ≤ s ∧ s ≤ 2000) (hi : i ≤ 2000) (hwl : w.length ≤ 1000) (F : List Int) (hF : F.length ≤ 1000000) (v : List Int)
    (hv : Ev (fun k' => key_lengths.l0 k' u s X n ((i + 1 : Nat) : Int) F) v) (d : Nat) :
    ∀ (j : Nat) (o : List Int), j + d = w.length → o ++ appW u s j w = F → Ev (fun k' => key_lengths.l1 k' u s X n (i : Int) (j : Int) o) v := by
  have hl0 : (codesW w).length = w.length := by simp [codesW]
  induction d with
  | zero =>
    intro j o hj hF2
    have : j = w.length := by omega
    subst this
    rw [appW_end, List.append_nil] at hF2
    subst hF2
    refine Ev.succ ?_
    simp only [key_lengths.l1, hw, hl0, wrap_succ (show i ≤ 1000000000000000 by omega)]
    exact Ev.neg (by omega) hv
  | succ d ih =>
    intro j o hj hF2
    have hjl : j < w.length := by omega
    rw [appW_step u s j w hjl] at hF2
    have hr : rdE eS (codesW w) (j : Int) = mk (codeL w[j]) := by rw [rdE_get eS _ j (by omega)]; simp [codesW]
    have hcl := (code_facts w[j]).2.2.1
    have j12 : ∀ o2, o2 ++ elE u (codeL w[j]) ++ appW u s (j + 1) w = F → Ev (fun k' => key_lengths.j12 k' u s X n (i : Int) (j : Int) o2) v := by
      intro o2 h2
      have hl : (o2 ++ elE u (codeL w[j])).length ≤ 1000000 := by rw [← h2] at hF; simp at hF ⊢; omega
      have := ih (j + 1) (o2 ++ elE u (codeL w[j])) (by omega) h2
      refine Ev.succ ?_
      simp only [key_lengths.j12]
      exact lenE u s X n i j (codeL w[j]) (by rw [hw]; exact hr) hu (by omega) (by omega) (o2 ++ elE u (codeL w[j])) hl v this (codeL w[j]).length 0 o2 (by omega) (by simp [appE])
    refine Ev.succ ?_
    simp only [key_lengths.l1, hw, hl0, wrap_id (e := 3 * s) (by omega) (by omega)]
    refine Ev.pos (by omega) (Ev.pos (by omega) (Ev.pos (by omega) ?_))
    by_cases c0 : j = 0
    · rw [if_pos c0, List.nil_append] at hF2
      exact Ev.neg (by omega) (j12 o (by simpa using hF2))
    · rw [if_neg c0] at hF2
      have hl : o.length + 1 ≤ 1000000 := by rw [← hF2] at hF; simp at hF; omega
      exact Ev.pos (by omega) (Ev.pos (by omega) (j12 (o ++ [3 * s]) (by simpa using hF2)))
theorem lenT (u s : Int) (W : List (List UInt8)) (hu : 0 ≤ u ∧ u ≤ 2000) (hs : 0 ≤ s ∧ s ≤ 2000) (hW : W.length ≤ 1000) (hwl : ∀ w ∈ W, w.length ≤ 1000) (F : List Int) (hF : F.length ≤ 1000000) (d : Nat) :
    ∀ (j : Nat) (o : List Int), j + d = W.length → o ++ appT u s j W = F → Ev (fun k' => key_lengths.l0 k' u s (W.map codesW) ((W.map codesW).length : Int) (j : Int) o) F := by
  have hl0 : (W.map codesW).length = W.length := by simp
  induction d with
  | zero =>
    intro j o hj hF2
    have : j = W.length := by omega
    subst this
    rw [appT_end, List.append_nil] at hF2
    subst hF2
    refine Ev.step (f := fun _ => some _) (fun k => ?_) (Ev.now _)
    simp only [key_lengths.l0, hl0]
    rw [if_neg (by omega)]
  | succ d ih =>
    intro j o hj hF2
    have hjl : j < W.length := by omega
    rw [appT_step u s j W hjl] at hF2
    have hr : rdE e_L (W.map codesW) (j : Int) = codesW W[j] := by rw [rdE_get e_L _ j (by omega)]; simp
    have hcl := hwl _ (List.getElem_mem hjl)
    have j7 : ∀ o2, o2 ++ elW u s W[j] ++ appT u s (j + 1) W = F → Ev (fun k' => key_lengths.j7 k' u s (W.map codesW) ((W.map codesW).length : Int) (j : Int) o2) F := by
      intro o2 h2
      have hl : (o2 ++ elW u s W[j]).length ≤ 1000000 := by rw [← h2] at hF; simp at hF ⊢; omega
      have := ih (j + 1) (o2 ++ elW u s W[j]) (by omega) h2
      refine Ev.succ ?_
      simp only [key_lengths.j7]
      exact lenW u s (W.map codesW) _ j W[j] hr hu hs (by omega) hcl (o2 ++ elW u s W[j]) hl F this W[j].length 0 o2 (by omega) (by simp [appW])
    refine Ev.succ ?_
    simp only [key_lengths.l0, hl0, wrap_id (e := 7 * s) (by omega) (by omega)]
    simp only [hl0] at j7
    refine Ev.pos (by omega) (Ev.pos (by omega) (Ev.pos (by omega) ?_))
    by_cases c0 : j = 0
    · rw [if_pos c0, List.nil_append] at hF2
      exact Ev.neg (by omega) (j7 o (by simpa using hF2))
    · rw [if_neg c0] at hF2
      have hl : o.length + 1 ≤ 1000000 := by rw [← hF2] at hF; simp at hF; omega
      exact Ev.pos (by omega) (Ev.pos (by omega) (j7 (o ++ [7 * s]) (by simpa using hF2)))
theorem words_bd (p : List UInt8) : (wordsOf p).length ≤ p.length + 1 ∧ ∀ w ∈ wordsOf p, w.length ≤ p.length := by
  constructor
  · rw [← words_sum p]
    have : ∀ l : List (List UInt8), l.length ≤ (l.map fun w => w.length + 1).sum := by
      intro l
      induction l with
      | nil => simp
      | cons a l ih => simp; omega
    exact this _
  · intro w hw
    have : ∀ (l : List (List UInt8)), w ∈ l → w.length + 1 ≤ (l.map fun w => w.length + 1).sum := by
      intro l
      induction l with
      | nil => intro h; cases h
      | cons a l ih =>
        intro h
        simp only [List.map_cons, List.sum_cons]
        rcases List.mem_cons.1 h with rfl | h
        · omega
        · have := ih h; omega
    have := this _ hw
    rw [words_sum p] at this
    omega
theorem lengths_ev (p : List UInt8) (hp : p.length ≤ 500) (u s : Int) (hu : 0 ≤ u ∧ u ≤ 2000) (hs : 0 ≤ s ∧ s ≤ 2000) : Ev (fun k => key_lengths.f k (mk p) u s) (elT u s (wordsOf p)) := by
  obtain ⟨b1, b2⟩ := words_bd p
  have hF := elT_len u s (wordsOf p)
  rw [words_sum p] at hF
  unfold key_lengths.f
  refine Ev.bind (words_ev p (by omega)) ?_
  exact lenT u s (wordsOf p) hu hs (by omega) (fun w hw => by have := b2 w hw; omega) _ (by omega) (wordsOf p).length 0 [] (by omega) (by simp [appT])
end Go.EV.Pure
namespace Go.EV.Pure
open Go Go.EV Go.RowKit
set_option linter.unusedSimpArgs false
set_option maxRecDepth 100000
/-! The document's way to key. -/
theorem code_bytes : ∀ b : UInt8, ∀ c ∈ codeL b, c = 45 ∨ c = 46 := all_bytes (by decide +kernel)
theorem said_all {p : List UInt8} (h : saidF p = 0) : p.length ≤ 500 ∧ (∀ b ∈ p, isSign b = true ∨ b = 32) ∧ ∀ x ∈ wordsOf p, x ≠ [] ∧ ∀ b ∈ x, isSign b = true := by
  unfold saidF at h
  split at h
  · cases h
  · rename_i c0
    split at h
    · cases h
    · rename_i c1
      split at h
      · rename_i c2
        have hal := c2
        rw [all_signs, List.all_eq_true] at c2
        refine ⟨by omega, fun b hb => by simpa using c2 b hb, fun x hx => ⟨fun e => c1 ?_, ?_⟩⟩
        · unfold badW
          rw [List.any_eq_true]
          exact ⟨x, hx, by rw [e]; rfl⟩
        · unfold allS at hal
          rw [List.all_eq_true] at hal
          have := hal x hx
          rw [List.all_eq_true] at this
          exact this
      · cases h
end Go.EV.Pure
namespace Go.EV.Pure
open Go Go.EV Go.RowKit
set_option linter.unusedSimpArgs false
set_option maxRecDepth 100000
theorem joinTail_bd : ∀ (r : List (List UInt8)) (n : Nat), (∀ w ∈ r, w.length ≤ n ∧ ∀ b ∈ w, b.toNat < 128) → (Lib.joinTail [32] r).length ≤ (n + 1) * r.length ∧ ∀ b ∈ Lib.joinTail [32] r, b.toNat < 128
  | [], n, _ => by simp [Lib.joinTail]
  | w :: r, n, h => by
    obtain ⟨i1, i2⟩ := joinTail_bd r n (fun x hx => h x (by simp [hx]))
    obtain ⟨h1, h2⟩ := h w (by simp)
    have e : Lib.joinTail [32] (w :: r) = [32] ++ w ++ Lib.joinTail [32] r := by simp [Lib.joinTail]
    rw [e]
    constructor
    · simp only [List.length_append, List.length_cons, List.length_nil, Nat.mul_add]; omega
    · intro b hb
      rcases List.mem_append.1 hb with hb | hb
      · rcases List.mem_append.1 hb with hb | hb
        · have : b = 32 := by simpa using hb
          rw [this]; decide
        · exact h2 b hb
      · exact i2 b hb
theorem join_bd (O : List (List UInt8)) (n : Nat) (h : ∀ w ∈ O, w.length ≤ n ∧ ∀ b ∈ w, b.toNat < 128) : (Lib.join O [32]).length ≤ (n + 1) * O.length ∧ ∀ b ∈ Lib.join O [32], b.toNat < 128 := by
  cases O with
  | nil => rw [Lib.join_nil]; simp
  | cons a r =>
    rw [Lib.join_cons]
    obtain ⟨i1, i2⟩ := joinTail_bd r n (fun x hx => h x (by simp [hx]))
    obtain ⟨h1, h2⟩ := h a (by simp)
    constructor
    · simp only [List.length_append, List.length_cons, Nat.mul_add]; omega
    · intro b hb
      rcases List.mem_append.1 hb with hb | hb
      · exact h2 b hb
      · exact i2 b hb
theorem join_GS (o : List ByteArray) (n m : Nat) (ho : o.length ≤ m) (h : ∀ w ∈ o, GS n w) (hb : (n + 1) * m ≤ 100000) (hm : m ≤ 100000) : ∃ r, strings_Join.f o (⟨#[32]⟩ : ByteArray) = some r ∧ GS ((n + 1) * m) r := by
  have hl : ∀ w ∈ o.map (·.data.toList), w.length ≤ n ∧ ∀ b ∈ w, b.toNat < 128 := by
    intro w hw
    obtain ⟨s, hs, rfl⟩ := List.mem_map.1 hw
    obtain ⟨h1, h2⟩ := h s hs
    refine ⟨by rw [Array.length_toList]; exact h2, fun b hb => ?_⟩
    unfold asciiT at h1
    rw [List.all_eq_true] at h1
    simpa using h1 b hb
  obtain ⟨j1, j2⟩ := join_bd _ n hl
  rw [List.length_map] at j1
  have j3 := Nat.mul_le_mul_left (n + 1) ho
  refine ⟨mk (Lib.join (o.map (·.data.toList)) [32]), ?_, ?_, ?_⟩
  · unfold strings_Join.f
    have e : (⟨#[32]⟩ : ByteArray).data.toList = [32] := rfl
    rw [e, if_pos ⟨by omega, by omega⟩]
    rfl
  · rw [mk_ascii, List.all_eq_true]
    exact fun b hb => by simpa using j2 b hb
  · rw [mk_size]; omega
theorem Saying_spec (l : List Int) (s : Int) (h0 : 0 ≤ s) (h1 : s ≤ 4611686018427380000) (hl : l.length ≤ 140737488351232) :
    ∃ t s', Ev (fun k => pilemake_Stream_Saying.f k l s) (mk t, l, s') ∧ asciiT (mk t) = true ∧ t.length ≤ 200 ∧ s ≤ s' ∧ s' ≤ s + 100 := by
  let Q := fun (v : ByteArray × List Int × Int) => ∃ t s', v = (mk t, l, s') ∧ asciiT (mk t) = true ∧ t.length ≤ 200 ∧ s ≤ s' ∧ s' ≤ s + 100
  have j14 : ∀ (y : ByteArray) (s' : Int), GS 200 y → s ≤ s' → s' ≤ s + 100 → ∃ v, Q v ∧ Ev (fun k => pilemake_Stream_Saying.j14 k y l s') v := fun y s' hy q1 q2 =>
    ⟨(y, l, s'), ⟨y.data.toList, s', by rw [← mk_of], by rw [← mk_of]; exact hy.1, by rw [Array.length_toList]; exact hy.2, q1, q2⟩, Ev.from 1 fun k => rfl⟩
  obtain ⟨x7, e7, n0, n1⟩ := Range_spec l s 1 4 h0 (by omega) (by omega) (by omega) (by omega) hl
  have outer : ∀ (d : Nat) (i : Nat) (o : List ByteArray) (s' : Int), (i : Int) + d = x7 → o.length = i → (∀ w ∈ o, GS 5 w) → s + 1 + 0 ≤ s' → s' ≤ s + 1 + 6 * i →
      ∃ v, Q v ∧ Ev (fun k => pilemake_Stream_Saying.l0 k x7 (i : Int) o l s') v := by
    intro d
    induction d with
    | zero =>
      intro i o s' hd ho hw q1 q2
      obtain ⟨r, er, gr⟩ := join_GS o 5 4 (by omega) hw (by omega) (by omega)
      obtain ⟨b, eb⟩ := Flip_spec l s' 12 (by omega) (by omega) (by omega) hl
      by_cases c : b = true
      · obtain ⟨y, s2, ey, hy, p1, p2⟩ := Changed_GS ((5 + 1) * 4) l (s' + 1) r (⟨#[32, 97, 65, 46, 10]⟩ : ByteArray) (by omega) (by omega) hl gr (by omega) ⟨by decide +kernel, by decide +kernel⟩ (by decide +kernel)
        have hy : GS 200 y := by
          rcases hy with hy | rfl
          · exact hy.mono (by omega)
          · exact ⟨by decide +kernel, by decide +kernel⟩
        obtain ⟨v, qv, ev⟩ := j14 y s2 hy (by omega) (by omega)
        refine ⟨v, qv, Ev.succ ?_⟩
        simp only [pilemake_Stream_Saying.l0, er, Option.bind_some]
        exact Ev.neg (by omega) (Ev.bind eb (Ev.pos c (Ev.bind ey ev)))
      · obtain ⟨v, qv, ev⟩ := j14 r (s' + 1) (gr.mono (by omega)) (by omega) (by omega)
        refine ⟨v, qv, Ev.succ ?_⟩
        simp only [pilemake_Stream_Saying.l0, er, Option.bind_some]
        exact Ev.neg (by omega) (Ev.bind eb (Ev.neg c ev))
    | succ d ih =>
      intro i o s' hd ho hw q1 q2
      obtain ⟨m, em, m0, m1⟩ := Range_spec l s' 1 5 (by omega) (by omega) (by omega) (by omega) (by omega) hl
      have inner : ∀ (f : Nat) (j : Nat) (t : ByteArray) (s2 : Int), (j : Int) + f = m → GS j t → s' + 1 ≤ s2 → s2 ≤ s' + 1 + j → ∃ v, Q v ∧ Ev (fun k => pilemake_Stream_Saying.l1 k x7 (i : Int) o t m (j : Int) l s2) v := by
        intro f
        induction f with
        | zero =>
          intro j t s2 hf ht p1 p2
          obtain ⟨v, qv, ev⟩ := ih (i + 1) (o ++ [t]) s2 (by omega) (by simp; omega) (fun w hw2 => by
            rcases List.mem_append.1 hw2 with hw2 | hw2
            · exact hw w hw2
            · obtain rfl : w = t := by simpa using hw2
              exact ht.mono (by omega)) (by omega) (by omega)
          refine ⟨v, qv, Ev.succ ?_⟩
          simp only [pilemake_Stream_Saying.l1, wrap_succ (show i ≤ 1000000000000000 by omega)]
          exact Ev.neg (by omega) (Ev.pos (by omega) ev)
        | succ f ihf =>
          intro j t s2 hf ht p1 p2
          obtain ⟨x, ex, gx⟩ := Some_GS 1 l s2 [(⟨#[101]⟩ : ByteArray), (⟨#[116]⟩ : ByteArray), (⟨#[97]⟩ : ByteArray), (⟨#[110]⟩ : ByteArray), (⟨#[107]⟩ : ByteArray), (⟨#[112]⟩ : ByteArray), (⟨#[53]⟩ : ByteArray), (⟨#[48]⟩ : ByteArray), (⟨#[47]⟩ : ByteArray), (⟨#[63]⟩ : ByteArray), (⟨#[61]⟩ : ByteArray), (⟨#[43]⟩ : ByteArray), (⟨#[113]⟩ : ByteArray), (⟨#[122]⟩ : ByteArray)] (by omega) (by omega) hl (by simp) (by simp) (by decide +kernel)
          obtain ⟨v, qv, ev⟩ := ihf (j + 1) (t ++ x) (s2 + 1) (by omega) (ht.app gx) (by omega) (by omega)
          have z1 := ht.2
          have z2 := gx.2
          refine ⟨v, qv, Ev.succ ?_⟩
          simp only [pilemake_Stream_Saying.l1, wrap_succ (show j ≤ 1000000000000000 by omega)]
          exact Ev.pos (by omega) (Ev.bind ex (Ev.pos (by simp only; omega) ev))
      obtain ⟨v, qv, ev⟩ := inner m.toNat 0 (⟨#[]⟩ : ByteArray) (s' + 1) (by omega) ⟨by decide, by decide⟩ (by omega) (by omega)
      refine ⟨v, qv, Ev.succ ?_⟩
      simp only [pilemake_Stream_Saying.l0]
      exact Ev.pos (by omega) (Ev.bind em ev)
  obtain ⟨v, ⟨t, s', rfl, t1, t2, q1, q2⟩, ev⟩ := outer x7.toNat 0 [] (s + 1) (by omega) rfl (fun w hw => by cases hw) (by omega) (by omega)
  exact ⟨t, s', Ev.bind e7 ev, t1, t2, q1, q2⟩
end Go.EV.Pure
namespace Go.EV.Pure
open Go Go.EV Go.RowKit
set_option linter.unusedSimpArgs false
set_option maxRecDepth 100000
theorem joinTl_len (sep : List UInt8) (q : Nat) (hq : sep.length ≤ q) : ∀ (r : List (List UInt8)) (n : Nat), (∀ w ∈ r, w.length ≤ n) → (Lib.joinTail sep r).length ≤ (n + q) * r.length
  | [], n, _ => by simp [Lib.joinTail]
  | w :: r, n, h => by
    have i1 := joinTl_len sep q hq r n (fun x hx => h x (by simp [hx]))
    have h1 := h w (by simp)
    have e : Lib.joinTail sep (w :: r) = sep ++ w ++ Lib.joinTail sep r := by simp [Lib.joinTail]
    rw [e]
    simp only [List.length_append, List.length_cons, Nat.mul_add]; omega
theorem join_len (sep : List UInt8) (q : Nat) (hq : sep.length ≤ q) (O : List (List UInt8)) (n : Nat) (h : ∀ w ∈ O, w.length ≤ n) : (Lib.join O sep).length ≤ (n + q) * O.length := by
  cases O with
  | nil => rw [Lib.join_nil]; simp
  | cons a r =>
    rw [Lib.join_cons]
    have i1 := joinTl_len sep q hq r n (fun x hx => h x (by simp [hx]))
    have h1 := h a (by simp)
    simp only [List.length_append, List.length_cons, Nat.mul_add]; omega
theorem joinTail_mem (sep : List UInt8) (b : UInt8) : ∀ (r : List (List UInt8)), b ∈ Lib.joinTail sep r → b ∈ sep ∨ ∃ w ∈ r, b ∈ w
  | [], h => by simp [Lib.joinTail] at h
  | w :: r, h => by
    have e : Lib.joinTail sep (w :: r) = sep ++ w ++ Lib.joinTail sep r := by simp [Lib.joinTail]
    rw [e] at h
    rcases List.mem_append.1 h with h | h
    · rcases List.mem_append.1 h with h | h
      · exact .inl h
      · exact .inr ⟨w, by simp, h⟩
    · rcases joinTail_mem sep b r h with h | ⟨x, hx, hb⟩
      · exact .inl h
      · exact .inr ⟨x, by simp [hx], hb⟩
theorem join_mem (sep : List UInt8) (b : UInt8) (O : List (List UInt8)) (h : b ∈ Lib.join O sep) : b ∈ sep ∨ ∃ w ∈ O, b ∈ w := by
  cases O with
  | nil => rw [Lib.join_nil] at h; cases h
  | cons a r =>
    rw [Lib.join_cons] at h
    rcases List.mem_append.1 h with h | h
    · exact .inr ⟨a, by simp, h⟩
    · rcases joinTail_mem sep b r h with h | ⟨x, hx, hb⟩
      · exact .inl h
      · exact .inr ⟨x, by simp [hx], hb⟩
theorem join_f (O : List (List UInt8)) (sep : List UInt8) (n : Nat) (hO : O.length ≤ 100000) (hs : sep.length ≤ 10) (hn : n ≤ 100000000) (h : ∀ w ∈ O, w.length ≤ n) : strings_Join.f (O.map mk) (mk sep) = some (mk (Lib.join O sep)) := by
  have hl := join_len sep 10 hs O n h
  have hm := Nat.mul_le_mul (show n + 10 ≤ 100000010 by omega) hO
  have e : (O.map mk).map (·.data.toList) = O := by
    rw [List.map_map]
    conv => rhs; rw [← List.map_id O]
    exact List.map_congr_left fun x _ => mk_data x
  unfold strings_Join.f
  rw [e, mk_data, if_pos ⟨by simp; omega, by omega⟩]
  rfl
end Go.EV.Pure
namespace Go.EV.Pure
open Go Go.EV Go.RowKit
set_option linter.unusedSimpArgs false
set_option maxRecDepth 100000
/-! The table of signs, codes written and read, both ways. -/
def sgL : List (ByteArray × ByteArray) := (signsL.zip codesL).map fun x => (mk [x.1], mk x.2)
def cw (w : List UInt8) : List UInt8 := Lib.join (w.map codeL) [32]
def codedL (p : List UInt8) : List UInt8 := Lib.join ((wordsOf p).map cw) [32, 47, 32]
theorem cw_f (w : List UInt8) (hw : w.length ≤ 1000) : strings_Join.f (codesW w) (⟨#[32]⟩ : ByteArray) = some (mk (cw w)) := by
  have := join_f (w.map codeL) [32] 6 (by simp; omega) (by simp) (by omega) (fun x hx => by
    obtain ⟨b, _, rfl⟩ := List.mem_map.1 hx
    exact (code_facts b).2.2.1)
  rw [List.map_map] at this
  exact this
theorem cw_len (w : List UInt8) : (cw w).length ≤ 7 * w.length := by
  have := join_len [32] 1 (by simp) (w.map codeL) 6 (fun x hx => by
    obtain ⟨b, _, rfl⟩ := List.mem_map.1 hx
    exact (code_facts b).2.2.1)
  simpa [cw] using this
theorem coded_f (p : List UInt8) (hp : p.length ≤ 500) : strings_Join.f (((wordsOf p).map cw).map mk) (⟨#[32, 47, 32]⟩ : ByteArray) = some (mk (codedL p)) := by
  obtain ⟨b1, b2⟩ := words_bd p
  exact join_f ((wordsOf p).map cw) [32, 47, 32] 10000 (by simp; omega) (by simp) (by omega) (fun x hx => by
    obtain ⟨w, hw, rfl⟩ := List.mem_map.1 hx
    have := cw_len w
    have := b2 w hw
    omega)
theorem Code_ev (p : List UInt8) (h : saidF p = 0) : Ev (fun k => key_Code.f k (mk p)) (mk (codedL p), 0) := by
  obtain ⟨h1, _, _⟩ := said_all h
  obtain ⟨b1, b2⟩ := words_bd p
  have e1 := CheckSaid_ev p (by omega)
  rw [h] at e1
  unfold key_Code.f
  refine Ev.bind e1 (Ev.pos rfl (Ev.bind (words_ev p (by omega)) ?_))
  have hl : ((wordsOf p).map codesW).length = (wordsOf p).length := by simp
  obtain ⟨v, hv, he⟩ := loop (wordsOf p) (fun k i (o : List ByteArray) => key_Code.l0 k ((wordsOf p).map codesW) (((wordsOf p).map codesW).length : Int) i o)
    (fun i o => o = (((wordsOf p).take i).map cw).map mk) (fun v => v = (mk (codedL p), 0))
    (fun i o hi ho => .inl ⟨_, rfl, fun v hv => Ev.succ (by
      have hr : rdE e_L ((wordsOf p).map codesW) (i : Int) = codesW (wordsOf p)[i] := by rw [rdE_get e_L _ i (by omega)]; simp
      have hwi := b2 _ (List.getElem_mem hi)
      have hol : o.length ≤ 1000 := by rw [ho]; simp; omega
      have ht : (((wordsOf p).take (i + 1)).map cw).map mk = o ++ [mk (cw (wordsOf p)[i])] := by rw [List.take_succ_eq_append_getElem hi, ho]; simp only [List.map_append, List.map_cons, List.map_nil]
      rw [ht] at hv
      simp only [key_Code.l0, hr, cw_f _ (show (wordsOf p)[i].length ≤ 1000 by omega), Option.bind_some, wrap_succ (show i ≤ 1000000000000000 by omega)]
      exact Ev.pos (by omega) (Ev.pos (by omega) (Ev.pos (by omega) (Ev.pos (by omega) hv))))⟩)
    (fun o ho => ⟨_, rfl, Ev.step (f := fun _ => some _) (fun k => by
      rw [List.take_length] at ho
      simp only [key_Code.l0, hl]
      rw [if_neg (by omega), ho, coded_f p h1]
      rfl) (Ev.now _)⟩) 0 [] (by omega) (by simp)
  rw [hv] at he
  exact he
end Go.EV.Pure
namespace Go.EV.Pure
open Go Go.EV Go.RowKit
set_option linter.unusedSimpArgs false
set_option maxRecDepth 100000
/-! Codes read. -/
def signF (a : ByteArray) : ByteArray := match sgL.find? (fun x => decide (x.2 = a)) with
  | some x => x.1
  | none => mk [42]
theorem signF_size (a : ByteArray) : (signF a).size = 1 := by
  unfold signF
  split
  · rename_i x hx
    have hm := List.mem_of_find?_eq_some hx
    have : ∀ x ∈ sgL, x.1.size = 1 := by decide +kernel
    exact this x hm
  · rfl
def signL (c : List UInt8) : List UInt8 := (signF (mk c)).data.toList
theorem signL_mk (c : List UInt8) : signF (mk c) = mk (signL c) := mk_of _
theorem signL_len (c : List UInt8) : (signL c).length = 1 := by
  have := signF_size (mk c)
  unfold signL
  rw [Array.length_toList]
  exact this
def byC : List (ByteArray × ByteArray) := sgL.map fun x => (x.2, x.1)
theorem byCodes_ev : Ev (fun k => key_byCodes.f k) byC := Ev.from 100 fun k => (by kernel_rfl : key_byCodes.f (k + 100) = some byC)
theorem mget_find (a d : ByteArray) : ∀ L : List (ByteArray × ByteArray), (a ∈ (L.map fun x => (x.2, x.1)).map Prod.fst ↔ (L.find? (fun x => decide (x.2 = a))).isSome = true) ∧
    ∀ x, L.find? (fun x => decide (x.2 = a)) = some x → mget d (L.map fun x => (x.2, x.1)) a = x.1
  | [] => by simp
  | y :: r => by
    obtain ⟨i1, i2⟩ := mget_find a d r
    by_cases c : y.2 = a
    · have hf : (y :: r).find? (fun x => decide (x.2 = a)) = some y := by rw [List.find?_cons, decide_eq_true c]
      rw [hf]
      refine ⟨by simp [c], fun x hx => ?_⟩
      cases hx
      simp [mget, c]
    · have hf : (y :: r).find? (fun x => decide (x.2 = a)) = r.find? (fun x => decide (x.2 = a)) := by rw [List.find?_cons, decide_eq_false c]
      rw [hf, ← i1]
      refine ⟨?_, fun x hx => ?_⟩
      · simp only [List.map_cons, List.mem_cons]
        constructor
        · rintro (h | h)
          · exact absurd h.symm c
          · exact h
        · exact fun h => .inr h
      · rw [← i2 x hx]
        unfold mget
        have hb : (y.2 == a) = false := by simpa using c
        simp only [List.map_cons, List.idxOf_cons, hb, cond_false, List.getD_cons_succ]
theorem keySign (a : ByteArray) : key_signOf.f byC a = some (signF a) := by
  obtain ⟨h1, h2⟩ := mget_find a ByteArray.empty sgL
  unfold key_signOf.f signF
  by_cases c : a ∈ List.map Prod.fst byC
  · rw [if_pos c]
    have hs := h1.1 c
    cases hf : sgL.find? (fun x => decide (x.2 = a)) with
    | none => rw [hf] at hs; cases hs
    | some x => show some _ = some x.1; rw [← h2 x hf]; rfl
  · rw [if_neg c]
    cases hf : sgL.find? (fun x => decide (x.2 = a)) with
    | none => rfl
    | some x => exact absurd (h1.2 (by rw [hf]; rfl)) c
def isEl (b : UInt8) : Bool := ([46, 45] : List UInt8).contains b
def goodC (c : List UInt8) : Bool := !c.isEmpty && (c.all isEl && decide (c.length ≤ 10))
theorem trimEl (c : List UInt8) (hc : c.length ≤ 1000000) : strings_Trim.f (mk c) (⟨#[46, 45]⟩ : ByteArray) = some (mk (Lib.trimS c [46, 45])) := by
  have hts : asciiT (⟨#[46, 45]⟩ : ByteArray) = true := by decide +kernel
  have htz : (⟨#[46, 45]⟩ : ByteArray).size < 4294967281 := by decide +kernel
  unfold strings_Trim.f
  rw [if_pos ⟨by rw [mk_size]; omega, htz, hts⟩, mk_data]
  rfl
theorem trimEl_nil (c : List UInt8) : mk (Lib.trimS c [46, 45]) = (⟨#[]⟩ : ByteArray) ↔ c.all isEl = true := by
  have : (⟨#[]⟩ : ByteArray) = mk [] := rfl
  rw [this, mk_inj, trimS_nil, List.all_eq_true]
  rfl
theorem isElements_eq (c : List UInt8) (hc : c.length ≤ 1000000) : key_isElements.f (mk c) = some (!c.isEmpty && c.all isEl) := by
  unfold key_isElements.f
  by_cases h : c.isEmpty = true
  · rw [if_pos ((mk_nil c).2 h), h]; rfl
  · rw [if_neg (fun e => h ((mk_nil c).1 e)), trimEl c hc, Option.bind_some]
    have hf : c.isEmpty = false := by simpa using h
    rw [hf]
    congr 1
    rw [Bool.not_false, Bool.true_and, Bool.eq_iff_iff, decide_eq_true_eq, trimEl_nil]
def catL (Y : List (List UInt8)) : List UInt8 := Y.flatMap signL
theorem catL_cons (c : List UInt8) (Y : List (List UInt8)) : catL (c :: Y) = signL c ++ catL Y := rfl
theorem catL_len (Y : List (List UInt8)) : (catL Y).length = Y.length := by
  unfold catL
  induction Y with
  | nil => rfl
  | cons a r ih => rw [List.flatMap_cons, List.length_append, ih, signL_len, List.length_cons]; omega
def goodX (x : List UInt8) : Bool := (wordsOf x).all goodC
def plainT (X : List (List UInt8)) : ByteArray × Int := if X.all goodX = true then (mk (Lib.join (X.map fun x => catL (wordsOf x)) [32]), 0) else (eB, 3)
theorem keyPl (XB : List ByteArray) (n : Int) (i : Nat) (hi : i ≤ 100000) (o : List ByteArray) (ho : o.length ≤ 100000) (Y : List (List UInt8)) (hY : Y.length ≤ 100000) (hY2 : ∀ c ∈ Y, c.length ≤ 1000000) (v : ByteArray × Int) (d : Nat) :
    ∀ (j : Nat) (A : List UInt8), j + d = Y.length → A.length ≤ j → ((Y.drop j).all goodC = true → Ev (fun k => key_Plain.l0 k XB n ((i + 1 : Nat) : Int) (o ++ [mk (A ++ catL (Y.drop j))]) byC) v) → ((Y.drop j).all goodC = false → v = (eB, 3)) →
      Ev (fun k => key_Plain.l1 k XB n (i : Int) o byC (mk A) (Y.map mk) ((Y.map mk).length : Int) (j : Int)) v := by
  have hl : (Y.map mk).length = Y.length := by simp
  induction d with
  | zero =>
    intro j A hj hA h1 _
    have hd : Y.drop j = [] := List.drop_eq_nil_of_le (by omega)
    rw [hd] at h1
    have h1 := h1 rfl
    simp only [catL, List.flatMap_nil, List.append_nil] at h1
    refine Ev.succ ?_
    simp only [key_Plain.l1, hl, wrap_succ (show i ≤ 1000000000000000 by omega)]
    exact Ev.neg (by omega) (Ev.pos (by omega) h1)
  | succ d ih =>
    intro j A hj hA h1 h2
    have hjl : j < Y.length := by omega
    have hr : rdE eS (Y.map mk) (j : Int) = mk Y[j] := by rw [rdE_get eS _ j (by omega)]; simp
    have hyl := hY2 _ (List.getElem_mem hjl)
    have hd : Y.drop j = Y[j] :: Y.drop (j + 1) := List.drop_eq_getElem_cons hjl
    have hs := mk_size Y[j]
    have hsz : (mk A).size + (mk (signL Y[j])).size ≤ 9223372036854775807 := by rw [mk_size, mk_size, signL_len]; omega
    rw [hd] at h1 h2
    refine Ev.succ ?_
    simp only [key_Plain.l1, hl, hr, isElements_eq _ hyl, Option.bind_some, hs, keySign, signL_mk, mk_append, wrap_succ (show j ≤ 1000000000000000 by omega)]
    refine Ev.pos (by omega) (Ev.pos (by omega) (Ev.pos (by omega) ?_))
    by_cases c : goodC Y[j] = true
    · have c2 := c
      unfold goodC at c2
      simp only [Bool.and_eq_true, decide_eq_true_eq] at c2
      obtain ⟨c3, c4, c5⟩ := c2
      have hh := ih (j + 1) (A ++ signL Y[j]) (by omega) (by rw [List.length_append, signL_len]; omega)
        (fun h => by
          have := h1 (by rw [List.all_cons, c, h]; rfl)
          rw [catL_cons, ← List.append_assoc] at this
          exact this)
        (fun h => h2 (by rw [List.all_cons, h, Bool.and_false]))
      simp only [hl] at hh
      exact Ev.pos (by rw [c3, c4]; rfl) (Ev.neg (by omega) (Ev.pos hsz hh))
    · have cf : goodC Y[j] = false := by simpa using c
      rw [h2 (by rw [List.all_cons, cf, Bool.false_and])]
      by_cases c6 : (!Y[j].isEmpty && Y[j].all isEl) = true
      · refine Ev.pos c6 (Ev.pos ?_ (Ev.now _))
        unfold goodC at cf
        rw [← Bool.and_assoc, c6, Bool.true_and, decide_eq_false_iff_not] at cf
        omega
      · exact Ev.neg c6 (Ev.now _)
theorem keyPlain_ev (X : List (List UInt8)) (hX : X.length ≤ 10000) (hX2 : ∀ x ∈ X, x.length ≤ 10000) : Ev (fun k => key_Plain.l0 k (X.map mk) ((X.map mk).length : Int) 0 [] byC) (plainT X) := by
  have hl : (X.map mk).length = X.length := by simp
  obtain ⟨v, hv, he⟩ := loop X (fun k i (o : List ByteArray) => key_Plain.l0 k (X.map mk) ((X.map mk).length : Int) i o byC)
    (fun i o => (X.take i).all goodX = true ∧ o = ((X.take i).map fun x => catL (wordsOf x)).map mk) (fun v => v = plainT X)
    (fun i o hi ⟨hI, ho⟩ => by
      have hr : rdE eS (X.map mk) (i : Int) = mk X[i] := by rw [rdE_get eS _ i (by omega)]; simp
      have hxi := hX2 _ (List.getElem_mem hi)
      obtain ⟨b1, b2⟩ := words_bd X[i]
      have hol : o.length ≤ 10000 := by rw [ho]; simp; omega
      have ht : ((X.take (i + 1)).map fun x => catL (wordsOf x)).map mk = o ++ [mk (catL (wordsOf X[i]))] := by rw [List.take_succ_eq_append_getElem hi, ho]; simp only [List.map_append, List.map_cons, List.map_nil]
      have step : ∀ v, (goodX X[i] = true → Ev (fun k => key_Plain.l0 k (X.map mk) ((X.map mk).length : Int) ((i + 1 : Nat) : Int) (o ++ [mk (catL (wordsOf X[i]))]) byC) v) → (goodX X[i] = false → v = (eB, 3)) → Ev (fun k => key_Plain.l0 k (X.map mk) ((X.map mk).length : Int) (i : Int) o byC) v := by
        intro v h1 h2
        have := keyPl (X.map mk) ((X.map mk).length : Int) i (by omega) o (by omega) (wordsOf X[i]) (by omega) (fun c hc => by have := b2 c hc; omega) v (wordsOf X[i]).length 0 [] (by omega) (by simp) h1 h2
        refine Ev.succ ?_
        simp only [key_Plain.l0, hr, split_ev X[i] (show X[i].length ≤ 1000000 by omega), Option.bind_some]
        exact Ev.pos (by omega) (Ev.pos (by omega) (Ev.pos (by omega) this))
      by_cases c : goodX X[i] = true
      · refine .inl ⟨_, ⟨?_, rfl⟩, fun v hv => ?_⟩
        · rw [List.take_succ_eq_append_getElem hi, List.all_append, hI]; simpa using c
        · rw [ht] at hv
          exact step v (fun _ => hv) (fun h => by rw [c] at h; cases h)
      · have cf : goodX X[i] = false := by simpa using c
        refine .inr ⟨(eB, 3), ?_, step _ (fun h => by rw [cf] at h; cases h) (fun _ => rfl)⟩
        unfold plainT
        rw [if_neg]
        intro h
        rw [List.all_eq_true] at h
        exact c (h _ (List.getElem_mem hi)))
    (fun o ⟨hI, ho⟩ => ⟨_, rfl, Ev.step (f := fun _ => some _) (fun k => by
      rw [List.take_length] at hI ho
      have hj := join_f (X.map fun x => catL (wordsOf x)) [32] 10001 (by simp; omega) (by simp) (by omega) (fun w hw => by
        obtain ⟨x, hx, rfl⟩ := List.mem_map.1 hw
        have := (words_bd x).1
        have := hX2 x hx
        rw [catL_len]; omega)
      have hj : strings_Join.f o (⟨#[32]⟩ : ByteArray) = some (mk (Lib.join (X.map fun x => catL (wordsOf x)) [32])) := by rw [ho]; exact hj
      simp only [key_Plain.l0, hl]
      rw [if_neg (by omega), hj]
      unfold plainT
      rw [if_pos hI]
      rfl) (Ev.now _)⟩) 0 [] (by omega) (by simp)
  rw [hv] at he
  exact he
end Go.EV.Pure
namespace Go.EV.Pure
open Go Go.EV Go.RowKit
set_option linter.unusedSimpArgs false
set_option linter.unusedVariables false
set_option maxRecDepth 100000
/-! Marks and gaps: how far they are from a unit, and what they are read as. -/
def dst (a b : Int) : Int := mx (a - b) (b - a)
def nearF (a u : Int) (m : Bool) : Int × Int :=
  if m = true then (if dst a (3 * u) < dst a u then (3, dst a (3 * u)) else (1, dst a u))
  else if dst a (7 * u) < (if dst a (3 * u) < dst a u then dst a (3 * u) else dst a u) then (7, dst a (7 * u)) else (if dst a (3 * u) < dst a u then (3, dst a (3 * u)) else (1, dst a u))
theorem dst_bd {a b N : Int} (ha : 0 ≤ a ∧ a ≤ N) (hb : 0 ≤ b ∧ b ≤ N) : 0 ≤ dst a b ∧ dst a b ≤ N := by
  unfold dst
  rw [mx_eq]
  split <;> omega
theorem isMark_ev (i : Nat) : key_isMark.f (i : Int) = some (decide (i % 2 = 0)) := by
  unfold key_isMark.f
  rw [tmod_pos (by omega)]
  have e : ((i : Int) % 2 = 0) ↔ (i % 2 = 0) := by omega
  simp only [e]
theorem near_step (a u : Int) (L : List Int) (i : Nat) (n x6 x7 : Int) (ha : 0 ≤ a ∧ a ≤ 1000000) (hu : 0 ≤ u ∧ u ≤ 100000) (hi : i < L.length) (hL : L.length ≤ 100) (hn : L[i] = n) (hn0 : 1 ≤ n ∧ n ≤ 7) (v : Int × Int)
    (h1 : x7 < 0 ∨ dst a (n * u) < x7 → Ev (fun k => key_nearest.l0 k a u L n (dst a (n * u)) ((i + 1 : Nat) : Int)) v)
    (h2 : ¬ (x7 < 0 ∨ dst a (n * u) < x7) → Ev (fun k => key_nearest.l0 k a u L x6 x7 ((i + 1 : Nat) : Int)) v) : Ev (fun k => key_nearest.l0 k a u L x6 x7 (i : Int)) v := by
  have hr := rd_get L i hi
  have hnu : 0 ≤ n * u ∧ n * u ≤ 700000 := by
    obtain ⟨q0, q1⟩ := hn0
    have : n = 1 ∨ n = 2 ∨ n = 3 ∨ n = 4 ∨ n = 5 ∨ n = 6 ∨ n = 7 := by omega
    rcases this with rfl | rfl | rfl | rfl | rfl | rfl | rfl <;> omega
  have hd : mx (wrap64 (a - wrap64 (n * u))) (wrap64 (wrap64 (n * u) - a)) = dst a (n * u) := by
    rw [wrap_id (e := n * u) (by omega) (by omega), wrap_id (e := a - n * u) (by omega) (by omega), wrap_id (e := n * u - a) (by omega) (by omega)]
    rfl
  have hj : ∀ y z : Int, Ev (fun k => key_nearest.l0 k a u L y z ((i + 1 : Nat) : Int)) v → Ev (fun k => key_nearest.j11 k a u L (i : Int) y z) v := fun y z h => Ev.step (fun k => by simp only [key_nearest.j11, wrap_succ (show i ≤ 1000000000000000 by omega)]) h
  refine Ev.succ ?_
  simp only [key_nearest.l0, hr, hn, hd]
  refine Ev.pos (by omega) (Ev.pos (by omega) (Ev.pos (by omega) ?_))
  by_cases c : x7 < 0
  · exact Ev.pos c (hj _ _ (h1 (.inl c)))
  · refine Ev.neg c ?_
    by_cases c2 : dst a (n * u) < x7
    · exact Ev.pos c2 (hj _ _ (h1 (.inr c2)))
    · exact Ev.neg c2 (hj _ _ (h2 (by omega)))
theorem near_end (a u : Int) (L : List Int) (x6 x7 : Int) (i : Nat) (hi : i = L.length) : Ev (fun k => key_nearest.l0 k a u L x6 x7 (i : Int)) (x6, x7) := by
  refine Ev.succ ?_
  simp only [key_nearest.l0]
  exact Ev.neg (by omega) (Ev.now _)
theorem nearest_ev (a u : Int) (m : Bool) (ha : 0 ≤ a ∧ a ≤ 1000000) (hu : 0 ≤ u ∧ u ≤ 100000) : Ev (fun k => key_nearest.f k a u m) (nearF a u m) := by
  have b1 := (dst_bd (N := 1000000) ha (b := 1 * u) (by omega)).1
  have b3 := (dst_bd (N := 1000000) ha (b := 3 * u) (by omega)).1
  have e1 : (1 : Int) * u = u := by omega
  unfold key_nearest.f
  cases m with
  | true =>
    refine Ev.pos rfl (Ev.pos (by decide) (Ev.succ ?_))
    simp only [key_nearest.j4]
    have hL : ([1, 3, 7] : List Int).take 2 = [1, 3] := rfl
    rw [hL]
    refine near_step a u [1, 3] 0 1 0 (-1) ha hu (by decide) (by decide) rfl (by omega) _ (fun _ => ?_) (fun h => absurd (.inl (by omega)) h)
    refine near_step a u [1, 3] 1 3 1 (dst a (1 * u)) ha hu (by decide) (by decide) rfl (by omega) _ (fun h => ?_) (fun h => ?_)
    · have e : nearF a u true = (3, dst a (3 * u)) := by unfold nearF; rw [e1] at h; rw [if_pos rfl, if_pos (by rw [e1] at b1; omega)]
      rw [e]
      exact near_end a u [1, 3] _ _ 2 rfl
    · have e : nearF a u true = (1, dst a (1 * u)) := by unfold nearF; rw [e1] at h ⊢; rw [if_pos rfl, if_neg (by omega)]
      rw [e]
      exact near_end a u [1, 3] _ _ 2 rfl
  | false =>
    refine Ev.neg Bool.false_ne_true (Ev.succ ?_)
    simp only [key_nearest.j4]
    refine near_step a u [1, 3, 7] 0 1 0 (-1) ha hu (by decide) (by decide) rfl (by omega) _ (fun _ => ?_) (fun h => absurd (.inl (by omega)) h)
    refine near_step a u [1, 3, 7] 1 3 1 (dst a (1 * u)) ha hu (by decide) (by decide) rfl (by omega) _ (fun h => ?_) (fun h => ?_)
    · rw [e1] at h b1
      have h' : dst a (3 * u) < dst a u := by omega
      refine near_step a u [1, 3, 7] 2 7 3 (dst a (3 * u)) ha hu (by decide) (by decide) rfl (by omega) _ (fun h2 => ?_) (fun h2 => ?_)
      · have e : nearF a u false = (7, dst a (7 * u)) := by unfold nearF; rw [if_neg Bool.false_ne_true, if_pos h', if_pos (by omega)]
        rw [e]
        exact near_end a u [1, 3, 7] _ _ 3 rfl
      · have e : nearF a u false = (3, dst a (3 * u)) := by unfold nearF; rw [if_neg Bool.false_ne_true, if_pos h', if_neg (by omega), if_pos h']
        rw [e]
        exact near_end a u [1, 3, 7] _ _ 3 rfl
    · rw [e1] at h b1 ⊢
      have h' : ¬ dst a (3 * u) < dst a u := by omega
      refine near_step a u [1, 3, 7] 2 7 1 (dst a u) ha hu (by decide) (by decide) rfl (by omega) _ (fun h2 => ?_) (fun h2 => ?_)
      · have e : nearF a u false = (7, dst a (7 * u)) := by unfold nearF; rw [if_neg Bool.false_ne_true, if_neg h', if_pos (by omega)]
        rw [e]
        exact near_end a u [1, 3, 7] _ _ 3 rfl
      · have e : nearF a u false = (1, dst a u) := by unfold nearF; rw [if_neg Bool.false_ne_true, if_neg h', if_neg (by omega), if_neg h']
        rw [e]
        exact near_end a u [1, 3, 7] _ _ 3 rfl
def MK (N : Int) (l : List Int) : Prop := l.length ≤ 20000 ∧ ∀ x ∈ l, 1 ≤ x ∧ x ≤ N
def offA (a u : Int) (m : Bool) : Int := (nearF a u m).2
theorem offA_mark (a u : Int) : offA a u true = mn (dst a u) (dst a (3 * u)) := by
  unfold offA nearF
  rw [if_pos rfl, mn_eq]
  split <;> rfl
theorem offA_gap (a u : Int) : offA a u false = mn (mn (dst a u) (dst a (3 * u))) (dst a (7 * u)) := by
  unfold offA nearF
  rw [if_neg Bool.false_ne_true, mn_eq, mn_eq]
  split <;> split <;> rfl
theorem offA_bd {a u : Int} {m : Bool} (ha : 0 ≤ a ∧ a ≤ 100000) (hu : 0 ≤ u ∧ u ≤ 10000) : 0 ≤ offA a u m ∧ offA a u m ≤ 100000 := by
  have b1 := dst_bd ha (b := u) (by omega)
  have b3 := dst_bd ha (b := 3 * u) (by omega)
  have b7 := dst_bd ha (b := 7 * u) (by omega)
  cases m with
  | true => rw [offA_mark, mn_eq]; split <;> omega
  | false => rw [offA_gap, mn_eq, mn_eq]; split <;> (try split) <;> omega
def offL (u : Int) : Nat → List Int → Int
  | _, [] => 0
  | i, a :: r => offA a u (decide (i % 2 = 0)) + offL u (i + 1) r
theorem offL_bd (u : Int) (hu : 0 ≤ u ∧ u ≤ 10000) : ∀ (l : List Int) (i : Nat), (∀ x ∈ l, 1 ≤ x ∧ x ≤ 100000) → 0 ≤ offL u i l ∧ offL u i l ≤ 100000 * l.length
  | [], i, _ => by simp [offL]
  | a :: r, i, h => by
    have h1 := offL_bd u hu r (i + 1) (fun x hx => h x (by simp [hx]))
    have h2 := h a (by simp)
    have h3 := offA_bd (a := a) (u := u) (m := decide (i % 2 = 0)) (by omega) hu
    simp only [offL, List.length_cons]
    omega
theorem off_run (l : List Int) (u : Int) (hl : MK 100000 l) (hu : 1 ≤ u ∧ u ≤ 2000) (d : Nat) : ∀ (i : Nat) (s : Int), i + d = l.length → 0 ≤ s ∧ s ≤ 100000 * (i : Int) → Ev (fun k => key_offOf.l0 k l u s (i : Int)) (s + offL u i (l.drop i)) := by
  have hll := hl.1
  induction d with
  | zero =>
    intro i s hi hs
    rw [List.drop_eq_nil_of_le (by omega)]
    refine Ev.succ ?_
    simp only [key_offOf.l0, offL, Int.add_zero]
    exact Ev.neg (by omega) (Ev.now _)
  | succ d ih =>
    intro i s hi hs
    have hil : i < l.length := by omega
    have ha := hl.2 _ (List.getElem_mem hil)
    have hr := rd_get l i hil
    rw [List.drop_eq_getElem_cons hil]
    generalize l[i] = a at ha hr
    have b := offA_bd (a := a) (u := u) (m := decide (i % 2 = 0)) (by omega) (by omega)
    have w3 : wrap64 (3 * u) = 3 * u := wrap_id (by omega) (by omega)
    have w7 : wrap64 (7 * u) = 7 * u := wrap_id (by omega) (by omega)
    have d1 : mx (wrap64 (a - u)) (wrap64 (u - a)) = dst a u := by rw [wrap_id (e := a - u) (by omega) (by omega), wrap_id (e := u - a) (by omega) (by omega)]; rfl
    have d3 : mx (wrap64 (a - 3 * u)) (wrap64 (3 * u - a)) = dst a (3 * u) := by rw [wrap_id (e := a - 3 * u) (by omega) (by omega), wrap_id (e := 3 * u - a) (by omega) (by omega)]; rfl
    have d7 : mx (wrap64 (a - 7 * u)) (wrap64 (7 * u - a)) = dst a (7 * u) := by rw [wrap_id (e := a - 7 * u) (by omega) (by omega), wrap_id (e := 7 * u - a) (by omega) (by omega)]; rfl
    have ih2 := ih (i + 1) (s + offA a u (decide (i % 2 = 0))) (by omega) (by omega)
    have hj : Ev (fun k => key_offOf.j9 k l u s (i : Int) (offA a u (decide (i % 2 = 0)))) (s + (offA a u (decide (i % 2 = 0)) + offL u (i + 1) (l.drop (i + 1)))) := by
      refine Ev.step (fun k => ?_) (by rw [Int.add_assoc] at ih2; exact ih2)
      simp only [key_offOf.j9, wrap_succ (show i ≤ 1000000000000000 by omega)]
      rw [wrap_id (e := s + offA a u (decide (i % 2 = 0))) (by omega) (by omega)]
    refine Ev.succ ?_
    simp only [key_offOf.l0, hr, w3, w7, d1, d3, d7, isMark_ev, Option.bind_some, offL]
    refine Ev.pos (by omega) (Ev.pos (by omega) (Ev.pos (by omega) ?_))
    by_cases c : i % 2 = 0
    · have c2 : decide (i % 2 = 0) = true := decide_eq_true c
      rw [c2] at hj ⊢
      rw [offA_mark] at hj ⊢
      exact Ev.pos rfl hj
    · have c2 : decide (i % 2 = 0) = false := decide_eq_false c
      rw [c2] at hj ⊢
      rw [offA_gap] at hj ⊢
      exact Ev.neg Bool.false_ne_true hj
theorem offOf_ev (l : List Int) (u : Int) (hl : MK 100000 l) (hu : 1 ≤ u ∧ u ≤ 2000) : Ev (fun k => key_offOf.f k l u) (offL u 0 l) := by
  have := off_run l u hl hu l.length 0 0 (by omega) (by omega)
  unfold key_offOf.f
  simpa using this
/-! ### reading -/
def rdS (u : Int) : Nat → List UInt8 → List UInt8 → List Int → List UInt8
  | _, o, c, [] => o ++ signL c
  | i, o, c, a :: r =>
    if decide (i % 2 = 0) = true then rdS u (i + 1) o (c ++ [if (nearF a u true).1 = 1 then 46 else 45]) r
    else if (nearF a u false).1 = 3 then rdS u (i + 1) (o ++ signL c) [] r
    else if (nearF a u false).1 = 7 then rdS u (i + 1) (o ++ signL c ++ [32]) [] r
    else rdS u (i + 1) o c r
theorem mk_push (p : List UInt8) (b : UInt8) : (mk p).push b = mk (p ++ [b]) := by
  apply ByteArray.ext
  show p.toArray.push b = _
  simp [mk]
theorem wByte (v : Nat) (p : List UInt8) (b : UInt8) (hp : p.length ≤ 1000000) : strings_Builder_WriteByte.f v (mk p) (b.toNat : Int) = some (v + 1, mk (p ++ [b])) := by
  unfold strings_Builder_WriteByte.f
  have hb : b.toNat < 256 := UInt8.toNat_lt b
  rw [if_pos ⟨by rw [mk_size]; omega, by omega, by omega⟩]
  have : UInt8.ofNat ((b.toNat : Int)).toNat = b := by simp
  rw [this, mk_push]
theorem read1_ev (v0 v2 : Nat) (o c : List UInt8) (ho : o.length ≤ 1000000) : ∃ w0 w2, key_read_1.f v0 (mk o) byC v2 (mk c) = some (w0, mk (o ++ signL c), w2, mk []) := by
  refine ⟨v0 + 1, v2 + 1, ?_⟩
  unfold key_read_1.f strings_Builder_String.f strings_Builder_Reset.f strings_Builder_WriteString.f
  simp only [Option.bind_some, keySign, signL_mk]
  rw [if_pos (by rw [mk_size, mk_size, signL_len]; omega), mk_append]
  rfl
theorem read_run (l : List Int) (u : Int) (hl : MK 100000 l) (hu : 1 ≤ u ∧ u ≤ 2000) (d : Nat) : ∀ (i : Nat) (v0 v2 : Nat) (o c : List UInt8), i + d = l.length → o.length ≤ 2 * i → c.length ≤ i → Ev (fun k => key_read.l0 k l u (i : Int) byC v0 (mk o) v2 (mk c)) (mk (rdS u i o c (l.drop i))) := by
  have hll := hl.1
  induction d with
  | zero =>
    intro i v0 v2 o c hi ho hc
    rw [List.drop_eq_nil_of_le (by omega)]
    obtain ⟨w0, w2, e⟩ := read1_ev v0 v2 o c (by omega)
    refine Ev.succ ?_
    simp only [key_read.l0, rdS, e, Option.bind_some, strings_Builder_String.f]
    exact Ev.neg (by omega) (Ev.now _)
  | succ d ih =>
    intro i v0 v2 o c hi ho hc
    have hil : i < l.length := by omega
    have ha := hl.2 _ (List.getElem_mem hil)
    have hr := rd_get l i hil
    rw [List.drop_eq_getElem_cons hil]
    generalize l[i] = a at ha hr
    have hj : ∀ w0 w2 o' c', o'.length ≤ 2 * (i + 1) → c'.length ≤ i + 1 → Ev (fun k => key_read.j17 k l u (i : Int) byC w0 (mk o') w2 (mk c')) (mk (rdS u (i + 1) o' c' (l.drop (i + 1)))) := fun w0 w2 o' c' h1 h2 =>
      Ev.step (fun k => by simp only [key_read.j17, wrap_succ (show i ≤ 1000000000000000 by omega)]) (ih (i + 1) w0 w2 o' c' (by omega) h1 h2)
    have hn := fun m => nearest_ev a u m (by omega) (by omega)
    obtain ⟨w0, w2, e⟩ := read1_ev v0 v2 o c (by omega)
    have lo : (o ++ signL c).length ≤ 2 * (i + 1) := by rw [List.length_append, signL_len]; omega
    refine Ev.succ ?_
    simp only [key_read.l0, hr, isMark_ev, Option.bind_some, rdS]
    refine Ev.pos (by omega) (Ev.pos (by omega) (Ev.pos (by omega) ?_))
    by_cases c0 : i % 2 = 0
    · have c2 : decide (i % 2 = 0) = true := decide_eq_true c0
      simp only [c2, if_pos]
      refine Ev.bind (hn true) ?_
      by_cases c1 : (nearF a u true).1 = 1
      · have := wByte v2 c 46 (by omega)
        simp only [UInt8.reduceToNat] at this
        simp only [if_pos c1]
        rw [show (46 : Int) = ((46 : UInt8).toNat : Int) from rfl, wByte v2 c 46 (by omega)]
        exact hj _ _ _ _ (by omega) (by simp; omega)
      · simp only [if_neg c1]
        rw [show (45 : Int) = ((45 : UInt8).toNat : Int) from rfl, wByte v2 c 45 (by omega)]
        exact hj _ _ _ _ (by omega) (by simp; omega)
    · have c2 : decide (i % 2 = 0) = false := decide_eq_false c0
      simp only [c2, if_neg Bool.false_ne_true]
      refine Ev.bind (hn false) ?_
      by_cases c3 : (nearF a u false).1 = 3
      · simp only [if_pos c3, e, Option.bind_some]
        exact hj _ _ _ _ lo (by simp)
      · simp only [if_neg c3]
        by_cases c7 : (nearF a u false).1 = 7
        · simp only [if_pos c7, e, Option.bind_some]
          rw [show (32 : Int) = ((32 : UInt8).toNat : Int) from rfl, wByte w0 (o ++ signL c) 32 (by omega)]
          exact hj _ _ _ _ (by rw [List.length_append, List.length_append, signL_len]; simp; omega) (by simp)
        · simp only [if_neg c7]
          exact hj _ _ _ _ (by omega) (by omega)
def readL (u : Int) (l : List Int) : List UInt8 := rdS u 0 [] [] l
theorem read_ev (l : List Int) (u : Int) (hl : MK 100000 l) (hu : 1 ≤ u ∧ u ≤ 2000) : Ev (fun k => key_read.f k l u) (mk (readL u l)) := by
  unfold key_read.f
  have := read_run l u hl hu l.length 0 0 0 [] [] (by omega) (by simp) (by simp)
  rw [List.drop_zero] at this
  exact Ev.bind byCodes_ev this
theorem CheckOK (l : List Int) (hl : MK 100000 l) (ho : l.length % 2 = 1) : Ev (fun k => key_CheckMarks.f k l) 0 := by
  have hll := hl.1
  obtain ⟨v, rfl, hv⟩ := loop l (fun k i (_ : Unit) => slices_IndexFunc_int_int_of_key_CheckMarks_1.l0 k l i) (fun _ _ => True) (fun v => v = -1)
    (fun i _ hi _ => .inl ⟨(), trivial, fun v hv => Ev.step (fun k => by
      have hx := hl.2 _ (List.getElem_mem hi)
      simp only [slices_IndexFunc_int_int_of_key_CheckMarks_1.l0, key_CheckMarks_1.f, kit_Outside.f]
      rw [if_pos (by omega), if_pos (by omega), if_pos (by omega), rd_get l i hi, if_neg (by omega)]
      simp only [Option.bind_some]
      rw [if_neg (by simp; omega), wrap_succ (by omega)]) hv⟩)
    (fun _ _ => ⟨-1, rfl, Ev.step (f := fun _ => some _) (fun k => by simp only [slices_IndexFunc_int_int_of_key_CheckMarks_1.l0]; rw [if_neg (by omega)]) (Ev.now _)⟩) 0 () (by omega) trivial
  have hc : Ev (fun k => slices_ContainsFunc_int_int_of_key_CheckMarks_1.f k l) false := Ev.bind (f := fun k => slices_IndexFunc_int_int_of_key_CheckMarks_1.l0 k l 0) hv (Ev.now _)
  unfold key_CheckMarks.f
  refine Ev.neg (by omega) (Ev.neg (by omega) (Ev.neg ?_ (Ev.bind hc (Ev.neg Bool.false_ne_true (Ev.now _)))))
  rw [tmod_pos (by omega)]
  omega
theorem unitOK (l : List Int) (u : Int) (hl : MK 100000 l) (ho : l.length % 2 = 1) (hu : 1 ≤ u ∧ u ≤ 2000) : Ev (fun k => key_unitFault.f k l u) 0 := by
  have hO : kit_Outside.f u 1 2000 = some false := by unfold kit_Outside.f; rw [if_neg (by omega)]; simp; omega
  unfold key_unitFault.f
  simp only [hO, Option.bind_some]
  exact Ev.bind (CheckOK l hl ho) (Ev.pos rfl (Ev.neg Bool.false_ne_true (Ev.now _)))
theorem With_ev (l : List Int) (u : Int) (hl : MK 100000 l) (ho : l.length % 2 = 1) (hu : 1 ≤ u ∧ u ≤ 2000) : Ev (fun k => key_With.f k l u) (mk (readL u l), offL u 0 l, 0) := by
  unfold key_With.f
  exact Ev.bind (unitOK l u hl ho hu) (Ev.pos rfl (Ev.bind (read_ev l u hl hu) (Ev.bind (offOf_ev l u hl hu) (Ev.now _))))
/-- The unit that fits best, of those up to n: the greatest one. -/
def Best (l : List Int) (n b : Int) : Prop := 1 ≤ b ∧ b ≤ n ∧ ∀ u, 1 ≤ u → u ≤ n → offL b 0 l ≤ offL u 0 l ∧ (offL b 0 l = offL u 0 l → u ≤ b)
def hearR (l : List Int) (b : Int) : ByteArray × Int × Int × Bool × Int := if ((mk (readL b l)).size : Int) > 500 then (eB, 0, 0, false, 0) else (mk (readL b l), b, offL b 0 l, true, 0)
theorem hear_run (l : List Int) (hl : MK 100000 l) (d : Nat) : ∀ (u : Nat) (b : Int), u + d = 2000 → 1 ≤ u → Best l (u : Int) b → ∃ c, Best l 2000 c ∧ Ev (fun k => key_Hear.l0 k l b (offL b 0 l) ((u + 1 : Nat) : Int)) (hearR l c) := by
  induction d with
  | zero =>
    intro u b hd h1 hb
    obtain rfl : u = 2000 := by omega
    refine ⟨b, hb, Ev.succ ?_⟩
    simp only [key_Hear.l0]
    refine Ev.neg (by omega) (Ev.bind (read_ev l b hl ⟨hb.1, by have := hb.2.1; omega⟩) ?_)
    unfold hearR
    exact Ev.ite (fun c => by rw [if_pos c]; exact Ev.now _) (fun c => by rw [if_neg c]; exact Ev.now _)
  | succ d ih =>
    intro u b hd h1 hb
    have hw : wrap64 (((u + 1 : Nat) : Int) + 1) = ((u + 1 + 1 : Nat) : Int) := wrap_succ (by omega)
    have hj : ∀ c : Int, Best l ((u + 1 : Nat) : Int) c → ∃ c', Best l 2000 c' ∧ Ev (fun k => key_Hear.j7 k l ((u + 1 : Nat) : Int) c (offL c 0 l)) (hearR l c') := fun c hc => by
      obtain ⟨c', h3, h4⟩ := ih (u + 1) c (by omega) (by omega) hc
      exact ⟨c', h3, Ev.step (fun k => by simp only [key_Hear.j7, hw]) h4⟩
    have ho := offOf_ev l ((u + 1 : Nat) : Int) hl (by omega)
    have hb0 := hb.1
    have hbn := hb.2.1
    by_cases c : offL ((u + 1 : Nat) : Int) 0 l ≤ offL b 0 l
    · obtain ⟨c', h3, h4⟩ := hj ((u + 1 : Nat) : Int) ⟨by omega, by omega, fun x x1 x2 => by
        by_cases e : x = ((u + 1 : Nat) : Int)
        · subst e; exact ⟨Int.le_refl _, fun _ => Int.le_refl _⟩
        · have := hb.2.2 x x1 (by omega)
          exact ⟨by omega, fun _ => by omega⟩⟩
      refine ⟨c', h3, Ev.succ ?_⟩
      simp only [key_Hear.l0]
      exact Ev.pos (by omega) (Ev.bind ho (Ev.neg (by omega) (Ev.pos c h4)))
    · obtain ⟨c', h3, h4⟩ := hj b ⟨by omega, by omega, fun x x1 x2 => by
        by_cases e : x = ((u + 1 : Nat) : Int)
        · subst e; exact ⟨by omega, fun e2 => by omega⟩
        · exact hb.2.2 x x1 (by omega)⟩
      refine ⟨c', h3, Ev.succ ?_⟩
      simp only [key_Hear.l0]
      exact Ev.pos (by omega) (Ev.bind ho (Ev.neg (by omega) (Ev.neg c h4)))
theorem Hear_ev (l : List Int) (hl : MK 100000 l) (ho : l.length % 2 = 1) : ∃ c, Best l 2000 c ∧ Ev (fun k => key_Hear.f k l) (hearR l c) := by
  obtain ⟨c, h1, h2⟩ := hear_run l hl 1999 1 1 (by omega) (by omega) ⟨by omega, by omega, fun u u1 u2 => by obtain rfl : u = 1 := (by omega); exact ⟨Int.le_refl _, fun _ => Int.le_refl _⟩⟩
  refine ⟨c, h1, ?_⟩
  unfold key_Hear.f
  refine Ev.bind (CheckOK l hl ho) (Ev.pos rfl (Ev.succ ?_))
  simp only [key_Hear.l0]
  refine Ev.pos (by omega) (Ev.bind (offOf_ev l 1 hl (by omega)) (Ev.pos (by first | trivial | rfl) (Ev.succ ?_)))
  simp only [key_Hear.j7]
  rw [wrap_id (e := 1 + 1) (by omega) (by omega)]
  exact h2
end Go.EV.Pure
namespace Go.EV.Pure
open Go Go.EV Go.RowKit
set_option linter.unusedSimpArgs false
set_option maxRecDepth 100000
/-! What is drawn as marks and gaps. -/
theorem elE_all (u N : Int) (hu : 1 ≤ u ∧ 3 * u ≤ N) (c : List UInt8) : ∀ x ∈ elE u c, 1 ≤ x ∧ x ≤ N := by
  have hm : ∀ b, 1 ≤ mrk u b ∧ mrk u b ≤ N := fun b => by unfold mrk; split <;> omega
  cases c with
  | nil => intro x hx; cases hx
  | cons a r =>
    intro x hx
    rcases List.mem_cons.1 hx with rfl | hx
    · exact hm a
    · obtain ⟨b, _, hb⟩ := List.mem_flatMap.1 hx
      simp only [List.mem_cons, List.not_mem_nil, or_false] at hb
      rcases hb with rfl | rfl
      · omega
      · exact hm b
theorem elE_odd (u : Int) (c : List UInt8) (hc : c ≠ []) : (elE u c).length = 2 * c.length - 1 := by
  cases c with
  | nil => exact absurd rfl hc
  | cons a r =>
    have : (tailE u r).length = 2 * r.length := by
      unfold tailE
      induction r with
      | nil => rfl
      | cons b r ih => simp only [List.flatMap_cons, List.length_append, ih (by simp), List.length_cons, List.length_nil]; omega
    simp only [elE, List.length_cons, this]
    omega
theorem elW_all (u s N : Int) (hu : 1 ≤ u ∧ 3 * u ≤ N) (hs : 1 ≤ s ∧ 3 * s ≤ N) (w : List UInt8) : ∀ x ∈ elW u s w, 1 ≤ x ∧ x ≤ N := by
  cases w with
  | nil => intro x hx; cases hx
  | cons a r =>
    intro x hx
    rcases List.mem_append.1 hx with hx | hx
    · exact elE_all u N hu _ x hx
    · obtain ⟨b, _, hb⟩ := List.mem_flatMap.1 hx
      rcases List.mem_cons.1 hb with rfl | hb
      · omega
      · exact elE_all u N hu _ x hb
theorem elW_odd (u s : Int) (w : List UInt8) (hw : w ≠ []) (h : ∀ b ∈ w, isSign b = true) : (elW u s w).length % 2 = 1 := by
  have hc : ∀ b ∈ w, (elE u (codeL b)).length % 2 = 1 := fun b hb => by
    have h1 := (code_facts b).1 (h b hb)
    have := elE_odd u _ h1
    have : 1 ≤ (codeL b).length := List.length_pos_iff.2 h1
    omega
  cases w with
  | nil => exact absurd rfl hw
  | cons a r =>
    have ht : ∀ r : List UInt8, (∀ b ∈ r, (elE u (codeL b)).length % 2 = 1) → (tailW u s r).length % 2 = 0 := by
      intro r
      induction r with
      | nil => intro _; rfl
      | cons b r ih =>
        intro hh
        have h1 := hh b (by simp)
        have h2 := ih (fun x hx => hh x (by simp [hx]))
        unfold tailW at h2 ⊢
        simp only [List.flatMap_cons, List.length_append, List.length_cons]
        omega
    have h1 := hc a (by simp)
    have h2 := ht r (fun b hb => hc b (by simp [hb]))
    simp only [elW, List.length_append]
    omega
theorem elT_all (u s N : Int) (hu : 1 ≤ u ∧ 3 * u ≤ N) (hs : 1 ≤ s ∧ 7 * s ≤ N) (W : List (List UInt8)) : ∀ x ∈ elT u s W, 1 ≤ x ∧ x ≤ N := by
  cases W with
  | nil => intro x hx; cases hx
  | cons a r =>
    intro x hx
    rcases List.mem_append.1 hx with hx | hx
    · exact elW_all u s N hu (by omega) _ x hx
    · obtain ⟨b, _, hb⟩ := List.mem_flatMap.1 hx
      rcases List.mem_cons.1 hb with rfl | hb
      · omega
      · exact elW_all u s N hu (by omega) _ x hb
theorem elT_odd (u s : Int) (W : List (List UInt8)) (hW : W ≠ []) (h : ∀ w ∈ W, w ≠ [] ∧ ∀ b ∈ w, isSign b = true) : (elT u s W).length % 2 = 1 := by
  have hc : ∀ w ∈ W, (elW u s w).length % 2 = 1 := fun w hw => elW_odd u s w (h w hw).1 (h w hw).2
  cases W with
  | nil => exact absurd rfl hW
  | cons a r =>
    have ht : ∀ r : List (List UInt8), (∀ w ∈ r, (elW u s w).length % 2 = 1) → (tailT u s r).length % 2 = 0 := by
      intro r
      induction r with
      | nil => intro _; rfl
      | cons b r ih =>
        intro hh
        have h1 := hh b (by simp)
        have h2 := ih (fun x hx => hh x (by simp [hx]))
        unfold tailT at h2 ⊢
        simp only [List.flatMap_cons, List.length_append, List.length_cons]
        omega
    have h1 := hc a (by simp)
    have h2 := ht r (fun b hb => hc b (by simp [hb]))
    simp only [elT, List.length_append]
    omega
end Go.EV.Pure
namespace Go.EV.Pure
open Go Go.EV Go.RowKit
set_option linter.unusedSimpArgs false
set_option linter.unusedVariables false
set_option maxRecDepth 100000
/-! What is keyed evenly is heard as it was said. -/
theorem sign_code : ∀ b : UInt8, isSign b = true → signL (codeL b) = [b] := all_bytes (by decide +kernel)
theorem dst_self (a : Int) : dst a a = 0 := by unfold dst; rw [mx_eq]; split <;> omega
theorem dst_lt {a b : Int} (h : a ≤ b) : dst a b = b - a := by unfold dst; rw [mx_eq]; split <;> omega
theorem dst_gt {a b : Int} (h : b ≤ a) : dst a b = a - b := by unfold dst; rw [mx_eq]; split <;> omega
theorem near_u {u : Int} (hu : 1 ≤ u) (m : Bool) : nearF u u m = (1, 0) := by
  have h1 := dst_self u
  have h3 := dst_lt (a := u) (b := 3 * u) (by omega)
  have h7 := dst_lt (a := u) (b := 7 * u) (by omega)
  unfold nearF
  rw [h1, h3, h7]
  cases m
  · rw [if_neg Bool.false_ne_true, if_neg (by omega : ¬ (3 * u - u < 0)), if_neg (by omega), if_neg (by omega)]
  · rw [if_pos rfl, if_neg (by omega)]
theorem near_3 {u : Int} (hu : 1 ≤ u) (m : Bool) : nearF (3 * u) u m = (3, 0) := by
  have h1 := dst_gt (a := 3 * u) (b := u) (by omega)
  have h3 := dst_self (3 * u)
  have h7 := dst_lt (a := 3 * u) (b := 7 * u) (by omega)
  unfold nearF
  rw [h1, h3, h7]
  cases m
  · rw [if_neg Bool.false_ne_true, if_pos (by omega : 0 < 3 * u - u), if_neg (by omega), if_pos (by omega)]
  · rw [if_pos rfl, if_pos (by omega)]
theorem near_7 {u : Int} (hu : 1 ≤ u) : nearF (7 * u) u false = (7, 0) := by
  have h1 := dst_gt (a := 7 * u) (b := u) (by omega)
  have h3 := dst_gt (a := 7 * u) (b := 3 * u) (by omega)
  have h7 := dst_self (7 * u)
  unfold nearF
  rw [h1, h3, h7, if_neg Bool.false_ne_true, if_pos (by omega : 7 * u - 3 * u < 7 * u - u), if_pos (by omega)]
theorem rd_mark {u : Int} (hu : 1 ≤ u) (i : Nat) (hi : i % 2 = 0) (o c : List UInt8) (a : UInt8) (ha : a = 45 ∨ a = 46) (r : List Int) : rdS u i o c (mrk u a :: r) = rdS u (i + 1) o (c ++ [a]) r := by
  have hd : decide (i % 2 = 0) = true := decide_eq_true hi
  rw [rdS, hd, if_pos rfl]
  rcases ha with rfl | rfl
  · rw [show mrk u 45 = 3 * u from rfl, near_3 hu, if_neg (by decide)]
  · rw [show mrk u 46 = u from rfl, near_u hu, if_pos rfl]
theorem rd_gap1 {u : Int} (hu : 1 ≤ u) (i : Nat) (hi : i % 2 = 1) (o c : List UInt8) (r : List Int) : rdS u i o c (u :: r) = rdS u (i + 1) o c r := by
  have hd : decide (i % 2 = 0) = false := decide_eq_false (by omega)
  rw [rdS, hd, if_neg Bool.false_ne_true, near_u hu, if_neg (by decide), if_neg (by decide)]
theorem rd_gap3 {u : Int} (hu : 1 ≤ u) (i : Nat) (hi : i % 2 = 1) (o c : List UInt8) (r : List Int) : rdS u i o c (3 * u :: r) = rdS u (i + 1) (o ++ signL c) [] r := by
  have hd : decide (i % 2 = 0) = false := decide_eq_false (by omega)
  rw [rdS, hd, if_neg Bool.false_ne_true, near_3 hu, if_pos rfl]
theorem rd_gap7 {u : Int} (hu : 1 ≤ u) (i : Nat) (hi : i % 2 = 1) (o c : List UInt8) (r : List Int) : rdS u i o c (7 * u :: r) = rdS u (i + 1) (o ++ signL c ++ [32]) [] r := by
  have hd : decide (i % 2 = 0) = false := decide_eq_false (by omega)
  rw [rdS, hd, if_neg Bool.false_ne_true, near_7 hu, if_neg (by decide), if_pos rfl]
theorem rd_tailE {u : Int} (hu : 1 ≤ u) (o : List UInt8) (rest : List Int) : ∀ (q : List UInt8) (i : Nat) (c : List UInt8), i % 2 = 1 → (∀ x ∈ q, x = 45 ∨ x = 46) → ∃ j, j % 2 = 1 ∧ rdS u i o c (tailE u q ++ rest) = rdS u j o (c ++ q) rest
  | [], i, c, hi, _ => ⟨i, hi, by simp [tailE]⟩
  | a :: q, i, c, hi, h => by
    obtain ⟨j, hj, e⟩ := rd_tailE hu o rest q (i + 1 + 1) (c ++ [a]) (by omega) (fun x hx => h x (by simp [hx]))
    refine ⟨j, hj, ?_⟩
    have e2 : tailE u (a :: q) ++ rest = u :: mrk u a :: (tailE u q ++ rest) := rfl
    rw [e2, rd_gap1 hu i hi, rd_mark hu (i + 1) (by omega) o c a (h a (by simp)), e, List.append_assoc]
    rfl
theorem rd_elE {u : Int} (hu : 1 ≤ u) (o : List UInt8) (rest : List Int) (q : List UInt8) (hq : q ≠ []) (i : Nat) (hi : i % 2 = 0) (h : ∀ x ∈ q, x = 45 ∨ x = 46) : ∃ j, j % 2 = 1 ∧ rdS u i o [] (elE u q ++ rest) = rdS u j o q rest := by
  cases q with
  | nil => exact absurd rfl hq
  | cons a q =>
    obtain ⟨j, hj, e⟩ := rd_tailE hu o rest q (i + 1) [a] (by omega) (fun x hx => h x (by simp [hx]))
    refine ⟨j, hj, ?_⟩
    have e2 : elE u (a :: q) ++ rest = mrk u a :: (tailE u q ++ rest) := rfl
    rw [e2, rd_mark hu i hi o [] a (h a (by simp)), List.nil_append, e]
    rfl
/-- The text so far is o and the sign whose code is c. -/
theorem rd_tailW {u : Int} (hu : 1 ≤ u) (rest : List Int) : ∀ (w : List UInt8) (i : Nat) (o : List UInt8) (z : UInt8), i % 2 = 1 → isSign z = true → (∀ b ∈ w, isSign b = true) →
    ∃ j o' z', j % 2 = 1 ∧ isSign z' = true ∧ o' ++ [z'] = o ++ z :: w ∧ rdS u i o (codeL z) (tailW u u w ++ rest) = rdS u j o' (codeL z') rest
  | [], i, o, z, hi, hz, _ => ⟨i, o, z, hi, hz, rfl, by simp [tailW]⟩
  | b :: w, i, o, z, hi, hz, h => by
    have hb := h b (by simp)
    obtain ⟨j, hj, e⟩ := rd_elE hu (o ++ [z]) (tailW u u w ++ rest) (codeL b) ((code_facts b).1 hb) (i + 1) (by omega) (code_bytes b)
    obtain ⟨j2, o', z', hj2, hz', h2, e2⟩ := rd_tailW hu rest w j (o ++ [z]) b hj hb (fun x hx => h x (by simp [hx]))
    refine ⟨j2, o', z', hj2, hz', by rw [h2]; simp, ?_⟩
    have e3 : tailW u u (b :: w) ++ rest = 3 * u :: (elE u (codeL b) ++ (tailW u u w ++ rest)) := by simp [tailW]
    rw [e3, rd_gap3 hu i hi, sign_code z hz, e, e2]
theorem rd_elW {u : Int} (hu : 1 ≤ u) (rest : List Int) (w : List UInt8) (hw : w ≠ []) (i : Nat) (hi : i % 2 = 0) (o : List UInt8) (h : ∀ b ∈ w, isSign b = true) :
    ∃ j o' z', j % 2 = 1 ∧ isSign z' = true ∧ o' ++ [z'] = o ++ w ∧ rdS u i o [] (elW u u w ++ rest) = rdS u j o' (codeL z') rest := by
  cases w with
  | nil => exact absurd rfl hw
  | cons a w =>
    have ha := h a (by simp)
    obtain ⟨j, hj, e⟩ := rd_elE hu o (tailW u u w ++ rest) (codeL a) ((code_facts a).1 ha) i hi (code_bytes a)
    obtain ⟨j2, o', z', hj2, hz', h2, e2⟩ := rd_tailW hu rest w j o a hj ha (fun x hx => h x (by simp [hx]))
    refine ⟨j2, o', z', hj2, hz', h2, ?_⟩
    have e3 : elW u u (a :: w) ++ rest = elE u (codeL a) ++ (tailW u u w ++ rest) := by simp [elW]
    rw [e3, e, e2]
theorem rd_tailT {u : Int} (hu : 1 ≤ u) : ∀ (q : List (List UInt8)) (i : Nat) (o : List UInt8) (z : UInt8), i % 2 = 1 → isSign z = true → (∀ x ∈ q, x ≠ [] ∧ ∀ b ∈ x, isSign b = true) →
    rdS u i o (codeL z) (tailT u u q) = o ++ [z] ++ q.flatMap fun w => 32 :: w
  | [], i, o, z, hi, hz, _ => by simp [tailT, rdS, sign_code z hz]
  | w :: q, i, o, z, hi, hz, h => by
    obtain ⟨j, o', z', hj, hz', h2, e⟩ := rd_elW hu (tailT u u q) w (h w (by simp)).1 (i + 1) (by omega) (o ++ [z] ++ [32]) (h w (by simp)).2
    have ih := rd_tailT hu q j o' z' hj hz' (fun x hx => h x (by simp [hx]))
    have e3 : tailT u u (w :: q) = 7 * u :: (elW u u w ++ tailT u u q) := by simp [tailT]
    rw [e3, rd_gap7 hu i hi, sign_code z hz, e, ih, h2]
    simp
theorem joinSp_flat (w : List UInt8) (q : List (List UInt8)) : joinSp (w :: q) = w ++ q.flatMap fun x => 32 :: x := by
  induction q generalizing w with
  | nil => simp [joinSp]
  | cons x q ih =>
    show w ++ 32 :: joinSp (x :: q) = _
    rw [ih]
    simp
theorem read_back {u : Int} (hu : 1 ≤ u) (p : List UInt8) (h : ∀ x ∈ wordsOf p, x ≠ [] ∧ ∀ b ∈ x, isSign b = true) : readL u (elT u u (wordsOf p)) = p := by
  obtain ⟨w, q, hw⟩ := wordsOf_ne p
  have hj := joinSp_words p
  rw [hw] at h hj ⊢
  obtain ⟨j, o', z', hj1, hz', h2, e⟩ := rd_elW hu (tailT u u q) w (h w (by simp)).1 0 rfl [] (h w (by simp)).2
  have e3 : elT u u (w :: q) = elW u u w ++ tailT u u q := rfl
  unfold readL
  rw [e3, e, rd_tailT hu q j o' z' hj1 hz' (fun x hx => h x (by simp [hx])), h2, List.nil_append, ← joinSp_flat, hj]
/-! no deviation -/
def Even (u : Int) : Nat → List Int → Prop
  | _, [] => True
  | i, a :: r => (a = u ∨ a = 3 * u ∨ (a = 7 * u ∧ i % 2 = 1)) ∧ Even u (i + 1) r
theorem Even.app {u : Int} : ∀ {l m : List Int} {i : Nat}, Even u i l → Even u (i + l.length) m → Even u i (l ++ m)
  | [], m, i, _, h => by simpa using h
  | a :: l, m, i, h1, h2 => by
    rw [List.length_cons] at h2
    have e : i + 1 + l.length = i + (l.length + 1) := by omega
    rw [← e] at h2
    exact ⟨h1.1, Even.app h1.2 h2⟩
theorem Even.two {u : Int} : ∀ {l : List Int} {i : Nat}, (∀ x ∈ l, x = u ∨ x = 3 * u) → Even u i l
  | [], _, _ => trivial
  | a :: l, i, h => ⟨(h a (by simp)).elim .inl fun x => .inr (.inl x), Even.two fun x hx => h x (by simp [hx])⟩
theorem elE_two (u : Int) (c : List UInt8) : ∀ x ∈ elE u c, x = u ∨ x = 3 * u := by
  have hm : ∀ b, mrk u b = u ∨ mrk u b = 3 * u := fun b => by unfold mrk; split <;> omega
  cases c with
  | nil => intro x hx; cases hx
  | cons a r =>
    intro x hx
    rcases List.mem_cons.1 hx with rfl | hx
    · exact hm a
    · obtain ⟨b, _, hb⟩ := List.mem_flatMap.1 hx
      simp only [List.mem_cons, List.not_mem_nil, or_false] at hb
      rcases hb with rfl | rfl
      · exact .inl rfl
      · exact hm b
theorem elW_two (u : Int) (w : List UInt8) : ∀ x ∈ elW u u w, x = u ∨ x = 3 * u := by
  cases w with
  | nil => intro x hx; cases hx
  | cons a r =>
    intro x hx
    rcases List.mem_append.1 hx with hx | hx
    · exact elE_two u _ x hx
    · obtain ⟨b, _, hb⟩ := List.mem_flatMap.1 hx
      rcases List.mem_cons.1 hb with rfl | hb
      · exact .inr rfl
      · exact elE_two u _ x hb
theorem Even_tailT {u : Int} : ∀ (q : List (List UInt8)) (i : Nat), i % 2 = 1 → (∀ x ∈ q, x ≠ [] ∧ ∀ b ∈ x, isSign b = true) → Even u i (tailT u u q)
  | [], i, _, _ => trivial
  | w :: q, i, hi, h => by
    have e3 : tailT u u (w :: q) = 7 * u :: (elW u u w ++ tailT u u q) := by simp [tailT]
    have ho := elW_odd u u w (h w (by simp)).1 (h w (by simp)).2
    rw [e3]
    exact ⟨.inr (.inr ⟨rfl, hi⟩), Even.app (Even.two (elW_two u w)) (Even_tailT q _ (by omega) (fun x hx => h x (by simp [hx])))⟩
theorem Even_elT {u : Int} (W : List (List UInt8)) (h : ∀ x ∈ W, x ≠ [] ∧ ∀ b ∈ x, isSign b = true) : Even u 0 (elT u u W) := by
  cases W with
  | nil => trivial
  | cons w q =>
    have ho := elW_odd u u w (h w (by simp)).1 (h w (by simp)).2
    exact Even.app (Even.two (elW_two u w)) (Even_tailT q _ (by omega) (fun x hx => h x (by simp [hx])))
theorem Even_near {u a : Int} (hu : 1 ≤ u) {i : Nat} (h : a = u ∨ a = 3 * u ∨ (a = 7 * u ∧ i % 2 = 1)) : (nearF a u (decide (i % 2 = 0))).2 = 0 := by
  rcases h with rfl | rfl | ⟨rfl, hi⟩
  · rw [near_u hu]
  · rw [near_3 hu]
  · rw [show decide (i % 2 = 0) = false from decide_eq_false (by omega), near_7 hu]
theorem off_even {u : Int} (hu : 1 ≤ u) : ∀ (l : List Int) (i : Nat), Even u i l → offL u i l = 0
  | [], _, _ => rfl
  | a :: r, i, h => by
    rw [offL, off_even hu r (i + 1) h.2]
    unfold offA
    rw [Even_near hu h.1]
    rfl
theorem Even.at {u : Int} : ∀ {l : List Int} {i : Nat}, Even u i l → ∀ (j : Nat) (h : j < l.length), l[j] = u ∨ l[j] = 3 * u ∨ (l[j] = 7 * u ∧ (i + j) % 2 = 1)
  | a :: r, i, h, 0, _ => h.1
  | a :: r, i, h, j + 1, hj => by
    have := Even.at h.2 j (by simpa using hj)
    have e : i + 1 + j = i + (j + 1) := by omega
    rw [e] at this
    exact this
theorem Uneven_none (l : List Int) (u : Int) (hl : MK 100000 l) (ho : l.length % 2 = 1) (hu : 1 ≤ u ∧ u ≤ 2000) (he : Even u 0 l) : Ev (fun k => key_Uneven.f k l u) ([], 0) := by
  have hll := hl.1
  obtain ⟨v, rfl, hv⟩ := loop l (fun k i (_ : Unit) => key_Uneven.l0 k l u i []) (fun _ _ => True) (fun v => v = ([], 0))
    (fun i _ hi _ => .inl ⟨(), trivial, fun v hv => by
      have ha := hl.2 _ (List.getElem_mem hi)
      have h0 := Even_near hu.1 (i := i) (by have := Even.at he i hi; rw [Nat.zero_add] at this; exact this)
      have hn := nearest_ev l[i] u (decide (i % 2 = 0)) (by omega) (by omega)
      refine Ev.succ ?_
      simp only [key_Uneven.l0, rd_get l i hi, isMark_ev, Option.bind_some]
      refine Ev.pos (by omega) (Ev.pos (by omega) (Ev.pos (by omega) (Ev.bind hn ?_)))
      rw [h0]
      refine Ev.neg (by rw [wrap_id (by omega) (by omega)]; omega) (Ev.succ ?_)
      simp only [key_Uneven.j11, wrap_succ (show i ≤ 1000000000000000 by omega)]
      exact hv⟩)
    (fun _ _ => ⟨([], 0), rfl, Ev.step (f := fun _ => some _) (fun k => by simp only [key_Uneven.l0]; rw [if_neg (by omega)]) (Ev.now _)⟩) 0 () (by omega) trivial
  unfold key_Uneven.f
  exact Ev.bind (unitOK l u hl ho hu) (Ev.pos rfl hv)
/-! units -/
theorem mrk_mul (u : Int) (c : UInt8) : mrk u c = u * mrk 1 c := by unfold mrk; split <;> omega
theorem elE_mul (u : Int) (c : List UInt8) : elE u c = (elE 1 c).map (u * ·) := by
  cases c with
  | nil => rfl
  | cons a r =>
    have : tailE u r = (tailE 1 r).map (u * ·) := by
      unfold tailE
      induction r with
      | nil => rfl
      | cons b r ih => simp only [List.flatMap_cons, List.map_append, List.map_cons, List.map_nil, ← ih, ← mrk_mul, Int.mul_one]
    simp only [elE, List.map_cons, ← mrk_mul, this]
theorem elW_mul (u : Int) (w : List UInt8) : elW u u w = (elW 1 1 w).map (u * ·) := by
  cases w with
  | nil => rfl
  | cons a r =>
    have : tailW u u r = (tailW 1 1 r).map (u * ·) := by
      unfold tailW
      induction r with
      | nil => rfl
      | cons b r ih =>
        simp only [List.flatMap_cons, List.map_append, List.map_cons, ← ih, ← elE_mul]
        congr 2
        omega
    simp only [elW, List.map_append, ← elE_mul, this]
theorem elT_mul (u : Int) (W : List (List UInt8)) : elT u u W = (elT 1 1 W).map (u * ·) := by
  cases W with
  | nil => rfl
  | cons a r =>
    have : tailT u u r = (tailT 1 1 r).map (u * ·) := by
      unfold tailT
      induction r with
      | nil => rfl
      | cons b r ih =>
        simp only [List.flatMap_cons, List.map_append, List.map_cons, ← ih, ← elW_mul]
        congr 2
        omega
    simp only [elT, List.map_append, ← elW_mul, this]
theorem sum_mul (u : Int) (l : List Int) : (l.map (u * ·)).sum = u * l.sum := by
  induction l with
  | nil => simp
  | cons a r ih => simp only [List.map_cons, List.sum_cons, ih, Int.mul_add]
theorem sum_bd (N : Int) (hN : 0 ≤ N) : ∀ l : List Int, (∀ x ∈ l, 0 ≤ x ∧ x ≤ N) → 0 ≤ l.sum ∧ l.sum ≤ N * l.length
  | [], _ => by simp
  | a :: r, h => by
    have h1 := sum_bd N hN r (fun x hx => h x (by simp [hx]))
    have h2 := h a (by simp)
    simp only [List.sum_cons, List.length_cons, Int.natCast_add, Int.mul_add, Int.natCast_one, Int.mul_one]
    omega
theorem Units_sum (p : List UInt8) (h : saidF p = 0) : Ev (fun k => key_Units.f k (mk p)) ((elT 1 1 (wordsOf p)).sum, 0) := by
  obtain ⟨h1, _, _⟩ := said_all h
  have e1 := CheckSaid_ev p (by omega)
  rw [h] at e1
  have el := lengths_ev p h1 1 1 (by omega) (by omega)
  have hF := elT_len 1 1 (wordsOf p)
  rw [words_sum p] at hF
  have hb := elT_all 1 1 7 (by omega) (by omega) (wordsOf p)
  generalize elT 1 1 (wordsOf p) = D at el hF hb ⊢
  obtain ⟨v, rfl, hv⟩ := loop D (fun k i (x : Int) => key_Units.l0 k x D (D.length : Int) i) (fun i x => x = (D.take i).sum) (fun v => v = (D.sum, 0))
    (fun i x hi hx => .inl ⟨(D.take (i + 1)).sum, rfl, fun v hv => Ev.step (fun k => by
      have hs := sum_bd 7 (by omega) (D.take i) (fun y hy => by have := hb y (List.mem_of_mem_take hy); omega)
      have hs2 := hb _ (List.getElem_mem hi)
      have hlen : (D.take i).length ≤ D.length := by rw [List.length_take]; omega
      simp only [key_Units.l0, rd_get D i hi, wrap_succ (show i ≤ 1000000000000000 by omega)]
      rw [if_pos (by omega), if_pos (by omega), if_pos (by omega), hx, wrap_id (by omega) (by omega), List.take_succ_eq_append_getElem hi, List.sum_append]
      simp) hv⟩)
    (fun x hx => ⟨(D.sum, 0), rfl, Ev.step (f := fun _ => some _) (fun k => by
      rw [List.take_length] at hx
      simp only [key_Units.l0]; rw [if_neg (by omega), hx]) (Ev.now _)⟩) 0 0 (by omega) (by simp)
  exact Ev.bind e1 (Ev.pos rfl (Ev.bind el hv))
/-! codes read -/
theorem idx3_hit (rest : List UInt8) : ∀ p : List UInt8, (47 : UInt8) ∉ p → Lib.index (p ++ 32 :: 47 :: 32 :: rest) [32, 47, 32] = (p.length : Int)
  | [], _ => by simp [Lib.index, List.isPrefixOf]
  | b :: p, h => by
    have ih := idx3_hit rest p (fun h' => h (by simp [h']))
    have hp : List.isPrefixOf [32, 47, 32] (b :: (p ++ 32 :: 47 :: 32 :: rest)) = false := by
      cases p with
      | nil => simp [List.isPrefixOf]
      | cons c p =>
        have hc : ¬ (47 : UInt8) = c := fun e => h (by simp [e])
        have : ((47 : UInt8) == c) = false := by simpa using hc
        simp [List.isPrefixOf, this]
    simp only [List.cons_append, Lib.index, ih, hp]
    simp <;> omega
theorem idx3_miss : ∀ p : List UInt8, (47 : UInt8) ∉ p → Lib.index p [32, 47, 32] = -1
  | [], _ => by simp [Lib.index]
  | b :: p, h => by
    have ih := idx3_miss p (fun h' => h (by simp [h']))
    have hp : List.isPrefixOf [32, 47, 32] (b :: p) = false := by
      cases p with
      | nil => simp [List.isPrefixOf]
      | cons c p =>
        have hc : ¬ (47 : UInt8) = c := fun e => h (by simp [e])
        have : ((47 : UInt8) == c) = false := by simpa using hc
        simp [List.isPrefixOf, this]
    simp only [Lib.index, ih, hp]
    simp
def sep3 : List UInt8 := [32, 47, 32]
theorem join3_cons (q p : List UInt8) (r : List (List UInt8)) : Lib.join (q :: p :: r) sep3 = q ++ 32 :: 47 :: 32 :: Lib.join (p :: r) sep3 := by
  rw [Lib.join_cons, Lib.join_cons]
  simp [Lib.joinTail, sep3]
theorem split3_all : ∀ (q : List UInt8) (r : List (List UInt8)), (∀ p ∈ q :: r, (47 : UInt8) ∉ p) → Lib.countB (mk (Lib.join (q :: r) sep3)) (mk sep3) = r.length ∧ Lib.splitB (mk sep3) 0 r.length (mk (Lib.join (q :: r) sep3)) = (q :: r).map mk
  | q, [], h => by
    rw [Lib.join_one]
    exact ⟨Lib.countB_miss _ _ (idx3_miss q (h q (by simp))), rfl⟩
  | q, p :: r, h => by
    obtain ⟨h1, h2⟩ := split3_all p r (fun x hx => h x (by simp [List.mem_cons.1 hx]))
    have hi : Lib.indexB (mk (Lib.join (q :: p :: r) sep3)) (mk sep3) = ((q.length : Nat) : Int) := by rw [join3_cons]; exact idx3_hit _ q (h q (by simp))
    have hs : (mk sep3).size = 3 := rfl
    have et : (mk (Lib.join (q :: p :: r) sep3)).extract (q.length + 3) (mk (Lib.join (q :: p :: r) sep3)).size = mk (Lib.join (p :: r) sep3) := by
      rw [join3_cons, mk_extract, mk_size, List.take_length]
      congr 1
      rw [List.drop_append, List.drop_eq_nil_of_le (by omega), List.nil_append, Nat.add_sub_cancel_left]
      rfl
    have eh : (mk (Lib.join (q :: p :: r) sep3)).extract 0 q.length = mk q := by
      rw [join3_cons, mk_extract]
      simp
    constructor
    · rw [Lib.countB_hit _ _ q.length (by rw [hs]; omega) hi, hs, et, h1]
      simp
      omega
    · rw [List.length_cons, Lib.splitB_hit _ _ _ _ q.length hi, hs, Nat.add_zero, eh, et, h2]
      rfl
theorem join_sum (sep : List UInt8) : ∀ O : List (List UInt8), (Lib.join O sep).length ≤ (O.map fun w => w.length + sep.length).sum
  | [] => by simp [Lib.join_nil]
  | a :: r => by
    have : ∀ r : List (List UInt8), (Lib.joinTail sep r).length = (r.map fun w => w.length + sep.length).sum := by
      intro r
      induction r with
      | nil => rfl
      | cons b r ih =>
        have e : Lib.joinTail sep (b :: r) = sep ++ b ++ Lib.joinTail sep r := by simp [Lib.joinTail]
        rw [e, List.length_append, List.length_append, ih, List.map_cons, List.sum_cons]
        omega
    rw [Lib.join_cons, List.length_append, this, List.map_cons, List.sum_cons]
    omega
theorem coded_len (p : List UInt8) : (codedL p).length ≤ 7 * (p.length + 1) := by
  have h := join_sum [32, 47, 32] ((wordsOf p).map cw)
  rw [← words_sum p]
  unfold codedL
  have : ∀ W : List (List UInt8), ((W.map cw).map fun w => w.length + ([32, 47, 32] : List UInt8).length).sum ≤ 7 * (W.map fun w => w.length + 1).sum := by
    intro W
    induction W with
    | nil => simp
    | cons a r ih =>
      have := cw_len a
      simp only [List.map_cons, List.sum_cons, List.length_cons, List.length_nil] at ih ⊢
      omega
  have := this (wordsOf p)
  omega
theorem cw_byte {w : List UInt8} {b : UInt8} (h : b ∈ cw w) : b = 32 ∨ b = 45 ∨ b = 46 := by
  rcases join_mem [32] b (w.map codeL) h with h | ⟨c, hc, h⟩
  · exact .inl (by simpa using h)
  · obtain ⟨x, _, rfl⟩ := List.mem_map.1 hc
    exact .inr (code_bytes x b h)
theorem words_join : ∀ (c : List UInt8) (r : List (List UInt8)), (∀ x ∈ c :: r, (32 : UInt8) ∉ x) → wordsOf (joinSp (c :: r)) = c :: r := by
  have key : ∀ (c t : List UInt8), (32 : UInt8) ∉ c → wordsOf (c ++ 32 :: t) = c :: wordsOf t := by
    intro c
    induction c with
    | nil => intro t _; simp [wordsOf]
    | cons b c ih =>
      intro t h
      have hb : ¬ b = 32 := fun e => h (by simp [e])
      have := ih t (fun h' => h (by simp [h']))
      rw [List.cons_append, wordsOf, if_neg hb, this]
  have one : ∀ c : List UInt8, (32 : UInt8) ∉ c → wordsOf c = [c] := by
    intro c
    induction c with
    | nil => intro _; rfl
    | cons b c ih =>
      intro h
      have hb : ¬ b = 32 := fun e => h (by simp [e])
      have := ih (fun h' => h (by simp [h']))
      rw [wordsOf, if_neg hb, this]
  intro c r
  induction r generalizing c with
  | nil => intro h; exact one c (h c (by simp))
  | cons x r ih =>
    intro h
    show wordsOf (c ++ 32 :: joinSp (x :: r)) = _
    rw [key c _ (h c (by simp)), ih x (fun y hy => h y (by simp [List.mem_cons.1 hy]))]
theorem join_sp (c : List UInt8) (r : List (List UInt8)) : Lib.join (c :: r) [32] = joinSp (c :: r) := by
  rw [joinSp_flat, Lib.join_cons]
  congr 1
theorem words_cw (w : List UInt8) (hw : w ≠ []) (h : ∀ b ∈ w, isSign b = true) : wordsOf (cw w) = w.map codeL := by
  cases w with
  | nil => exact absurd rfl hw
  | cons a w =>
    have e : cw (a :: w) = joinSp (codeL a :: w.map codeL) := by unfold cw; rw [List.map_cons, join_sp]
    rw [e, words_join]
    · rfl
    · intro x hx h32
      have : ∃ b, x = codeL b := by
        rcases List.mem_cons.1 hx with rfl | hx
        · exact ⟨a, rfl⟩
        · obtain ⟨b, _, rfl⟩ := List.mem_map.1 hx
          exact ⟨b, rfl⟩
      obtain ⟨b, rfl⟩ := this
      have := code_bytes b 32 h32
      revert this
      decide
theorem mem_sum (n : Nat) : ∀ l : List Nat, n ∈ l → n ≤ l.sum
  | a :: l, h => by
    rw [List.sum_cons]
    rcases List.mem_cons.1 h with rfl | h
    · omega
    · have := mem_sum n l h; omega
theorem good_code : ∀ b : UInt8, isSign b = true → goodC (codeL b) = true := all_bytes (by decide +kernel)
theorem plain_back (p : List UInt8) (hs : saidF p = 0) : Ev (fun k => key_Plain.f k (mk (codedL p))) (mk p, 0) := by
  obtain ⟨h1, _, h⟩ := said_all hs
  have hlen := coded_len p
  obtain ⟨w, q, hw⟩ := wordsOf_ne p
  have hW : codedL p = Lib.join (cw w :: q.map cw) sep3 := by unfold codedL; rw [hw]; rfl
  have h47 : ∀ x ∈ cw w :: q.map cw, (47 : UInt8) ∉ x := fun x hx h47 => by
    have : ∃ y, x = cw y := by
      rcases List.mem_cons.1 hx with rfl | hx
      · exact ⟨w, rfl⟩
      · obtain ⟨y, _, rfl⟩ := List.mem_map.1 hx
        exact ⟨y, rfl⟩
    obtain ⟨y, rfl⟩ := this
    have := cw_byte h47
    revert this
    decide
  obtain ⟨a1, a2⟩ := split3_all (cw w) (q.map cw) h47
  rw [← hW] at a1 a2
  have hsp : strings_Split.f (mk (codedL p)) (⟨#[32, 47, 32]⟩ : ByteArray) = some (((wordsOf p).map cw).map mk) := by
    have e0 : (⟨#[32, 47, 32]⟩ : ByteArray) = mk sep3 := rfl
    unfold strings_Split.f
    rw [e0, if_pos ⟨by rw [mk_size]; omega, by decide⟩, a1, a2, hw]
    rfl
  have hwl : (wordsOf p).length ≤ p.length + 1 := by
    rw [← words_sum p]
    have : ∀ l : List (List UInt8), l.length ≤ (l.map fun w => w.length + 1).sum := by
      intro l
      induction l with
      | nil => simp
      | cons a l ih => simp; omega
    exact this _
  have hpl := keyPlain_ev ((wordsOf p).map cw) (by rw [List.length_map]; omega) (fun x hx => by
    obtain ⟨y, hy, rfl⟩ := List.mem_map.1 hx
    have h2 := cw_len y
    have h3 : y.length + 1 ≤ p.length + 1 := by
      rw [← words_sum p]
      exact mem_sum _ _ (List.mem_map.2 ⟨y, hy, rfl⟩)
    omega)
  have hp : plainT ((wordsOf p).map cw) = (mk p, 0) := by
    unfold plainT
    rw [if_pos]
    · have e1 : ((wordsOf p).map cw).map (fun x => catL (wordsOf x)) = wordsOf p := by
        rw [List.map_map]
        conv => rhs; rw [← List.map_id (wordsOf p)]
        refine List.map_congr_left fun y hy => ?_
        show catL (wordsOf (cw y)) = y
        rw [words_cw y (h y hy).1 (h y hy).2]
        have : ∀ y : List UInt8, (∀ b ∈ y, isSign b = true) → catL (y.map codeL) = y := by
          intro y
          induction y with
          | nil => intro _; rfl
          | cons b y ih => intro hb; rw [List.map_cons, catL_cons, sign_code b (hb b (by simp)), ih (fun x hx => hb x (by simp [hx]))]; rfl
        exact this y (h y hy).2
      rw [e1, hw, join_sp, ← hw, joinSp_words]
    · rw [List.all_eq_true]
      intro x hx
      obtain ⟨y, hy, rfl⟩ := List.mem_map.1 hx
      unfold goodX
      rw [words_cw y (h y hy).1 (h y hy).2, List.all_eq_true]
      intro c hc
      obtain ⟨b, hb, rfl⟩ := List.mem_map.1 hc
      exact good_code b ((h y hy).2 b hb)
  rw [hp] at hpl
  unfold key_Plain.f
  refine Ev.neg (by rw [mk_size]; omega) (Ev.bind byCodes_ev ?_)
  simp only [hsp, Option.bind_some]
  exact hpl
theorem Out_f {a lo hi : Int} (h : lo ≤ a ∧ a ≤ hi) : kit_Outside.f a lo hi = some false := by
  unfold kit_Outside.f
  rw [if_neg (by omega)]
  simp
  omega
theorem KeyedIsHeard (l : List Int) (hl : l.length ≤ 140737488351232) : ∃ k, pilekeep1_KeyedIsHeard.f k l = some true := by
  obtain ⟨t, s1, e1, t1, t2, q1, q2⟩ := Saying_spec l 0 (by omega) (by omega) hl
  obtain ⟨u, e2, m2⟩ := Pick_spec l s1 [1, 7, 60, 240] (by omega) (by omega) hl (by simp) (by simp)
  simp only [List.mem_cons, List.not_mem_nil, or_false] at m2
  have hu : 1 ≤ u ∧ u ≤ 240 := by omega
  have e4 := CheckSaid_ev t (by omega)
  have e5 := SaidFault_ev t (by omega)
  have hR : Ev (fun k => (pilekeep1_ready.f k).bind fun r => Option.some r) true := Ev.bind ready_ev (Ev.now _)
  by_cases c : saidF t = 0
  · rw [c] at e4 e5
    obtain ⟨h500, _, hx⟩ := said_all c
    have hF := elT_len u u (wordsOf t)
    rw [words_sum t] at hF
    have el := lengths_ev t h500 u u (by omega) (by omega)
    have eK : Ev (fun k => key_Key.f k (mk t) u u) (elT u u (wordsOf t), 0) := by
      unfold key_Key.f
      simp only [Out_f (show 1 ≤ u ∧ u ≤ 2000 by omega), Out_f (show u ≤ u ∧ u ≤ 2000 by omega), Option.bind_some]
      exact Ev.bind e4 (Ev.pos rfl (Ev.neg Bool.false_ne_true (Ev.neg Bool.false_ne_true (Ev.bind el (Ev.now _)))))
    have hMK : MK 100000 (elT u u (wordsOf t)) := ⟨by omega, elT_all u u 100000 (by omega) (by omega) (wordsOf t)⟩
    obtain ⟨w0, q0, hw0⟩ := wordsOf_ne t
    have hodd := elT_odd u u (wordsOf t) (by rw [hw0]; simp) hx
    have hEv := Even_elT (u := u) (wordsOf t) hx
    have hoff := off_even hu.1 _ 0 hEv
    have eW := With_ev _ u hMK hodd (by omega)
    rw [read_back hu.1 t hx, hoff] at eW
    have eU := Uneven_none _ u hMK hodd (by omega) hEv
    obtain ⟨b, hb, eH⟩ := Hear_ev _ hMK hodd
    have hbo : offL b 0 (elT u u (wordsOf t)) = 0 := by
      have h1 := (hb.2.2 u hu.1 (by omega)).1
      have h2 := (offL_bd b ⟨by have := hb.1; omega, by have := hb.2.1; omega⟩ (elT u u (wordsOf t)) 0 hMK.2).1
      omega
    have eC := Code_ev t c
    have eP := plain_back t c
    have eN := Units_sum t c
    have hsum : (elT u u (wordsOf t)).sum = u * (elT 1 1 (wordsOf t)).sum := by rw [elT_mul, sum_mul]
    have hb1 := sum_bd 7 (by omega) (elT 1 1 (wordsOf t)) (fun y hy => by have := elT_all 1 1 7 (by omega) (by omega) (wordsOf t) y hy; omega)
    have hF1 := elT_len 1 1 (wordsOf t)
    rw [words_sum t] at hF1
    generalize hD : elT u u (wordsOf t) = D at hF el eK hMK hodd hoff eW eU eH hbo hsum hb
    generalize (elT 1 1 (wordsOf t)).sum = N at eN hsum hb1
    have hN : 0 ≤ N ∧ N ≤ 100000 := by omega
    have hNu : 0 ≤ N * u ∧ N * u ≤ 24000000 := by
      have h1 : N * u ≤ 100000 * 240 := Int.mul_le_mul hN.2 hu.2 (by omega) (by omega)
      have h2 := Int.mul_nonneg hN.1 (show 0 ≤ u by omega)
      omega
    obtain ⟨v, rfl, eL⟩ := loop D (fun k i (x : Int) => pilekeep1_KeyedIsHeard.l0 k (mk t) u 0 0 (mk t) x D (D.length : Int) i) (fun i x => x = (D.take i).sum) (fun v => v = true)
      (fun i x hi hx => .inl ⟨(D.take (i + 1)).sum, rfl, fun v hv => Ev.step (fun k => by
        have hs := sum_bd 100000 (by omega) (D.take i) (fun y hy => by have := hMK.2 y (List.mem_of_mem_take hy); omega)
        have hs2 := hMK.2 _ (List.getElem_mem hi)
        have hlen : (D.take i).length ≤ D.length := by rw [List.length_take]; omega
        simp only [pilekeep1_KeyedIsHeard.l0, rd_get D i hi, wrap_succ (show i ≤ 1000000000000000 by omega)]
        rw [if_pos (by omega), if_pos (by omega), if_pos (by omega), hx, wrap_id (by omega) (by omega), List.take_succ_eq_append_getElem hi, List.sum_append]
        simp) hv⟩)
      (fun x hx => ⟨true, rfl, Ev.succ (by
        rw [List.take_length] at hx
        simp only [pilekeep1_KeyedIsHeard.l0]
        refine Ev.neg (by omega) (Ev.bind eN (Ev.pos (by first | trivial | rfl) (Ev.pos (by first | trivial | rfl) (Ev.pos (by first | trivial | rfl) (Ev.pos (by first | trivial | rfl) (Ev.pos ?_ hR))))))
        rw [hx, hsum, Int.mul_comm]
        exact (wrap_id (e := N * u) (by omega) (by omega)).symm)⟩) 0 0 (by omega) (by simp)
    have hrest : Ev (fun k => (key_Code.f k (mk t)).bind fun r9 => ((key_Plain.f k r9.1).bind fun r10 => pilekeep1_KeyedIsHeard.l0 k (mk t) u r9.2 r10.2 r10.1 0 D (D.length : Int) 0)) true := Ev.bind eC (Ev.bind eP eL)
    unfold pilekeep1_KeyedIsHeard.f
    refine (Ev.bind e1 (Ev.bind e2 (Ev.bind e5 (Ev.pos rfl (Ev.bind eK (Ev.bind eW (Ev.pos rfl (Ev.pos rfl (Ev.pos rfl (Ev.pos rfl (Ev.bind eU (Ev.bind eH ?_)))))))))))).ex
    unfold hearR
    by_cases hz : ((mk (readL b D)).size : Int) > 500
    · rw [if_pos hz]
      exact Ev.pos rfl (Ev.pos rfl (Ev.pos rfl (Ev.neg Bool.false_ne_true hrest)))
    · rw [if_neg hz]
      exact Ev.pos rfl (Ev.pos rfl (Ev.pos rfl (Ev.pos rfl (Ev.pos hbo hrest))))
  · exact (Ev.bind e1 (Ev.bind e2 (Ev.bind e5 (Ev.neg c hR)))).ex
end Go.EV.Pure
