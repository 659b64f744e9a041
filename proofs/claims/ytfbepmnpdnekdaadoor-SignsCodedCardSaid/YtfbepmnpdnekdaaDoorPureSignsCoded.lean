/- The plain law: the Lean functions answer true for every list. -/
import Derived.Test.YtfbepmnpdnekdaaDoorXSignsCoded
import Derived.KernelRfl
import Derived.Lib.SlTrimSet
import Derived.Lib.SplitLaws
import Derived.Lib.Join
set_option linter.unusedVariables false
set_option linter.unusedSimpArgs false
/-! Plain laws that all statements use: numbers that don't wrap, functions with fuel, loops over lists, the stream's draws. -/
namespace Go.EV.Pure
open Go Go.EV Go.RowKit
theorem wrap_id {e : Int} (h1 : -9223372036854775808 ≤ e) (h2 : e ≤ 9223372036854775807) : wrap64 e = e := by
  unfold wrap64
  omega
theorem rdE_get {α : Type} (E : Enc α) (l : List α) (i : Nat) (h : i < l.length) : rdE E l (i : Int) = l[i] := by
  simp [rdE, List.getD, List.getElem?_eq_getElem h]
theorem rd_mem (l : List Int) (i : Int) (h0 : 0 ≤ i) (h1 : i < l.length) : rd l i ∈ l := by
  have h : i.toNat < l.length := by omega
  have : rd l i = l[i.toNat] := by simp [rd, List.getD, List.getElem?_eq_getElem h]
  rw [this]
  exact List.getElem_mem h
theorem rdE_mem {α : Type} (E : Enc α) (l : List α) (i : Int) (h0 : 0 ≤ i) (h1 : i < l.length) : rdE E l i ∈ l := by
  have h : i.toNat < l.length := by omega
  have : rdE E l i = l[i.toNat] := by simp [rdE, List.getD, List.getElem?_eq_getElem h]
  rw [this]
  exact List.getElem_mem h
theorem wrap_succ {i : Nat} (h : i ≤ 1000000000000000) : wrap64 ((i : Int) + 1) = ((i + 1 : Nat) : Int) := by rw [wrap_id (by omega) (by omega)]; omega

/-- From some fuel on the function answers v. -/
def Ev {α : Type} (f : Nat → Option α) (v : α) : Prop := ∃ K, ∀ k, K ≤ k → f k = some v
section
variable {α β : Type}
theorem Ev.now (v : α) : Ev (fun _ => some v) v := ⟨0, fun _ _ => rfl⟩
theorem Ev.of {f : Nat → Option α} {v : α} (h : ∀ k, f k = some v) : Ev f v := ⟨0, fun k _ => h k⟩
theorem Ev.from {f : Nat → Option α} {v : α} (n : Nat) (h : ∀ k, f (k + n) = some v) : Ev f v := ⟨n, fun k hk => by
  obtain ⟨m, rfl⟩ : ∃ m, k = m + n := ⟨k - n, by omega⟩
  exact h m⟩
theorem Ev.bind {f : Nat → Option α} {a : α} {g : Nat → α → Option β} {v : β} (h : Ev f a) (h2 : Ev (fun k => g k a) v) : Ev (fun k => (f k).bind (g k)) v := by
  obtain ⟨K, h⟩ := h
  obtain ⟨K2, h2⟩ := h2
  exact ⟨max K K2, fun k hk => by show (f k).bind (g k) = some v; rw [h k (by omega)]; exact h2 k (by omega)⟩
theorem Ev.step {g f : Nat → Option α} {v : α} (h : ∀ k, g (k + 1) = f k) (h2 : Ev f v) : Ev g v := by
  obtain ⟨K, h2⟩ := h2
  exact ⟨K + 1, fun k hk => by
    obtain ⟨m, rfl⟩ : ∃ m, k = m + 1 := ⟨k - 1, by omega⟩
    rw [h m]; exact h2 m (by omega)⟩
theorem Ev.succ {g : Nat → Option α} {v : α} (h : Ev (fun k => g (k + 1)) v) : Ev g v := Ev.step (fun _ => rfl) h
theorem Ev.congr {f g : Nat → Option α} {v : α} (h : ∀ k, f k = g k) (h2 : Ev g v) : Ev f v := by
  obtain ⟨K, h2⟩ := h2
  exact ⟨K, fun k hk => (h k).trans (h2 k hk)⟩
theorem Ev.ex {f : Nat → Option α} {v : α} (h : Ev f v) : ∃ k, f k = some v := let ⟨K, h⟩ := h; ⟨K, h K (Nat.le_refl _)⟩
theorem Ev.ite {p : Prop} [Decidable p] {f g : Nat → Option α} {v : α} (h1 : p → Ev f v) (h2 : ¬ p → Ev g v) : Ev (fun k => if p then f k else g k) v := by
  by_cases c : p
  · simp only [if_pos c]; exact h1 c
  · simp only [if_neg c]; exact h2 c
theorem Ev.pos {p : Prop} [Decidable p] {f g : Nat → Option α} {v : α} (c : p) (h1 : Ev f v) : Ev (fun k => if p then f k else g k) v := by simp only [if_pos c]; exact h1
theorem Ev.neg {p : Prop} [Decidable p] {f g : Nat → Option α} {v : α} (c : ¬ p) (h1 : Ev g v) : Ev (fun k => if p then f k else g k) v := by simp only [if_neg c]; exact h1

/-- A loop over a list by its index: what holds of its state carries over each round, or the round is the last one. -/
theorem loop {σ ρ : Type} (l : List α) (F : Nat → Int → σ → Option ρ) (I : Nat → σ → Prop) (post : ρ → Prop)
    (hstep : ∀ (i : Nat) (s : σ), i < l.length → I i s → (∃ s', I (i + 1) s' ∧ ∀ v, Ev (fun k => F k ((i + 1 : Nat) : Int) s') v → Ev (fun k => F k (i : Int) s) v) ∨ ∃ v, post v ∧ Ev (fun k => F k (i : Int) s) v)
    (hend : ∀ s, I l.length s → ∃ v, post v ∧ Ev (fun k => F k (l.length : Int) s) v) :
    ∀ (i : Nat) (s : σ), i ≤ l.length → I i s → ∃ v, post v ∧ Ev (fun k => F k (i : Int) s) v := by
  intro i
  generalize hd : l.length - i = d
  induction d generalizing i with
  | zero =>
    intro s hi hI
    obtain rfl : i = l.length := by omega
    exact hend s hI
  | succ d ih =>
    intro s hi hI
    rcases hstep i s (by omega) hI with ⟨s', h1, h2⟩ | h
    · obtain ⟨v, h3, h4⟩ := ih (i + 1) (by omega) s' (by omega) h1
      exact ⟨v, h3, h2 v h4⟩
    · exact h
end
end Go.EV.Pure
namespace Go.EV.Pure
open Go Go.EV Go.RowKit
set_option linter.unusedSimpArgs false
/-! Strings as lists of bytes. -/
def eB : ByteArray := ⟨#[]⟩
def mk (p : List UInt8) : ByteArray := ⟨p.toArray⟩
theorem mk_data (p : List UInt8) : (mk p).data.toList = p := by simp [mk]
theorem mk_size (p : List UInt8) : (mk p).size = p.length := by simp [mk, ByteArray.size]
theorem mk_of (s : ByteArray) : s = mk s.data.toList := by
  apply ByteArray.ext
  simp [mk]
theorem mk_inj {p q : List UInt8} : mk p = mk q ↔ p = q := ⟨fun h => by have := congrArg (fun s => s.data.toList) h; simpa [mk] using this, fun h => h ▸ rfl⟩
theorem mk_append (p q : List UInt8) : mk p ++ mk q = mk (p ++ q) := by
  apply ByteArray.ext
  simp [mk]
theorem mk_extract (p : List UInt8) (i j : Nat) : (mk p).extract i j = mk ((p.take j).drop i) := by
  apply ByteArray.ext
  simp only [mk, ByteArray.data_extract]
  apply Array.ext'
  simp [List.extract_eq_take_drop, List.drop_take]
theorem mk_bt (p : List UInt8) (i : Nat) (h : i < p.length) : bt (mk p) (i : Int) = (p[i].toNat : Int) := by
  unfold bt
  have hs : (Int.toNat (i : Int)) < (mk p).size := by simpa [mk_size] using h
  rw [dif_pos hs]
  have : (mk p)[Int.toNat (i : Int)]'hs = p[i] := by
    show (p.toArray)[Int.toNat (i : Int)]'_ = _
    simp only [Int.toNat_natCast, List.getElem_toArray]
    rfl
  rw [this]
  rfl
theorem mk_ascii (p : List UInt8) : asciiT (mk p) = p.all fun b => decide (b.toNat < 128) := by unfold asciiT; rw [mk_data]
theorem trimS_nil (l cs : List UInt8) : Lib.trimS l cs = [] ↔ ∀ b ∈ l, cs.contains b = true := by
  unfold Lib.trimS Lib.trimLeftS Lib.trimRightS
  have key0 : ∀ r : List UInt8, r.dropWhile (cs.contains ·) = [] ↔ ∀ x ∈ r, cs.contains x = true := by
    intro r
    induction r with
    | nil => simp
    | cons a r ih =>
      by_cases c : cs.contains a = true
      · rw [List.dropWhile_cons_of_pos c, ih]
        constructor
        · intro h x hx
          rcases List.mem_cons.1 hx with rfl | hx
          · exact c
          · exact h x hx
        · intro h x hx
          exact h x (by simp [hx])
      · rw [List.dropWhile_cons_of_neg c]
        constructor
        · intro h; cases h
        · intro h; exact absurd (h a (by simp)) c
  rw [key0]
  constructor
  · intro h b hb
    have key : ∀ r : List UInt8, (∀ x ∈ (r.dropWhile (cs.contains ·)), cs.contains x = true) → ∀ x ∈ r, cs.contains x = true := by
      intro r
      induction r with
      | nil => intro _ x hx; cases hx
      | cons a r ih =>
        intro h x hx
        by_cases c : cs.contains a = true
        · rw [List.dropWhile_cons_of_pos c] at h
          rcases List.mem_cons.1 hx with rfl | hx
          · exact c
          · exact ih h x hx
        · rw [List.dropWhile_cons_of_neg c] at h
          exact h x hx
    exact key l.reverse (fun x hx => h x (by simpa using hx)) b (by simpa using hb)
  · intro h x hx
    have hx : x ∈ l.reverse.dropWhile (cs.contains ·) := by simpa using hx
    exact h x (by simpa using (List.dropWhile_sublist _).subset hx)
theorem all_bytes {P : UInt8 → Prop} (h : ∀ n : Fin 256, P (UInt8.ofNat n.val)) (b : UInt8) : P b := by
  have := h ⟨b.toNat, UInt8.toNat_lt b⟩
  simpa using this
theorem ascii_sub {p q : List UInt8} (h : asciiT (mk p) = true) (hq : ∀ b ∈ q, b ∈ p) : asciiT (mk q) = true := by
  rw [mk_ascii, List.all_eq_true] at h ⊢
  exact fun b hb => h b (hq b hb)
end Go.EV.Pure
namespace Go.EV.Pure
open Go Go.EV Go.RowKit
theorem Below_j (x : Int) : Ev (fun k => pilemake_Below.j6 k x) x := Ev.from 1 fun k => rfl
theorem Below_spec (x n : Int) (hn : n ≤ 9223372036854775807) : ∃ r, Ev (fun k => pilemake_Below.f k x n) r ∧ 0 ≤ r ∧ (1 ≤ n → r < n) ∧ (n < 1 → r = 0) := by
  unfold pilemake_Below.f
  by_cases h : n < 1
  · simp only [if_pos h]
    exact ⟨0, Ev.now _, by omega, by omega, fun _ => rfl⟩
  · simp only [if_neg h, if_neg (show ¬ n = 0 by omega)]
    have hm := Int.natAbs_tmod x n
    have hm2 := Nat.mod_lt x.natAbs (show n.natAbs > 0 by omega)
    have h1 : x.tmod n < n := by omega
    have h2 : -n < x.tmod n := by omega
    by_cases h3 : x.tmod n < 0
    · simp only [if_pos h3]
      refine ⟨_, Below_j _, ?_, ?_, ?_⟩ <;> rw [wrap_id (by omega) (by omega)] <;> omega
    · simp only [if_neg h3]
      exact ⟨_, Below_j _, by omega, by omega, by omega⟩
theorem Next_spec (l : List Int) (s n : Int) (h0 : 0 ≤ s) (h1 : s ≤ 4611686018427387904) (hn : n ≤ 9223372036854775807) (hl : l.length ≤ 140737488351232) :
    ∃ r, Ev (fun k => pilemake_Stream_Next.f k l s n) (r, l, s + 1) ∧ 0 ≤ r ∧ (1 ≤ n → r < n) := by
  unfold pilemake_Stream_Next.f
  have hs : wrap64 (s + 1) = s + 1 := wrap_id (by omega) (by omega)
  have hs2 : wrap64 (s + 1 - 1) = s := by rw [wrap_id (by omega) (by omega)]; omega
  simp only [hs, hs2]
  by_cases h : (l.length : Int) = 0
  · simp only [if_pos h]
    obtain ⟨r, hr, r0, r1, _⟩ := Below_spec (wrap64 ((s + 1) * 7919)) n hn
    exact ⟨r, Ev.bind hr (Ev.now _), r0, r1⟩
  · have e : Int.tmod s (l.length : Int) = s % (l.length : Int) := Int.tmod_eq_emod_of_nonneg h0
    have m0 : 0 ≤ s % (l.length : Int) := Int.emod_nonneg _ h
    have m1 : s % (l.length : Int) < (l.length : Int) := Int.emod_lt_of_pos _ (by omega)
    simp only [if_neg h, e, if_pos m0, if_pos m1]
    obtain ⟨a, ha, _⟩ := Below_spec (rd l (s % (l.length : Int))) 1073741824 (by omega)
    obtain ⟨r, hr, r0, r1, _⟩ := Below_spec (wrap64 (a + wrap64 (wrap64 (Int.tdiv s (l.length : Int)) * wrap64 (7919 + s % (l.length : Int))))) n hn
    exact ⟨r, Ev.bind ha (Ev.bind hr (Ev.now _)), r0, r1⟩
theorem Pick_spec (l : List Int) (s : Int) (m : List Int) (h0 : 0 ≤ s) (h1 : s ≤ 4611686018427387904) (hl : l.length ≤ 140737488351232) (hm : 1 ≤ m.length) (hm2 : m.length ≤ 1000) :
    ∃ r, Ev (fun k => pilemake_Stream_Pick.f k l s m) (r, l, s + 1) ∧ r ∈ m := by
  obtain ⟨r, hr, r0, r1⟩ := Next_spec l s (m.length : Int) h0 h1 (by omega) hl
  have r2 := r1 (by omega)
  exact ⟨rd m r, Ev.bind hr (Ev.pos r0 (Ev.pos r2 (Ev.now _))), rd_mem m r r0 r2⟩
theorem Range_spec (l : List Int) (s a b : Int) (h0 : 0 ≤ s) (h1 : s ≤ 4611686018427387904) (ha : -1099511627776 ≤ a) (hb : b ≤ 1099511627776) (hab : a ≤ b) (hl : l.length ≤ 140737488351232) :
    ∃ r, Ev (fun k => pilemake_Stream_Range.f k l s a b) (r, l, s + 1) ∧ a ≤ r ∧ r ≤ b := by
  obtain ⟨r, hr, r0, r1⟩ := Next_spec l s (b - a + 1) h0 h1 (by omega) hl
  have r2 := r1 (by omega)
  refine ⟨a + r, ?_, by omega, by omega⟩
  unfold pilemake_Stream_Range.f
  rw [wrap_id (e := b - a) (by omega) (by omega), wrap_id (e := b - a + 1) (by omega) (by omega)]
  refine Ev.neg (by omega) (Ev.bind hr ?_)
  simp only [wrap_id (e := a + r) (by omega) (by omega)]
  exact Ev.now _
theorem Flip_spec (l : List Int) (s n : Int) (h0 : 0 ≤ s) (h1 : s ≤ 4611686018427387904) (hn : n ≤ 9223372036854775807) (hl : l.length ≤ 140737488351232) :
    ∃ b, Ev (fun k => pilemake_Stream_Flip.f k l s n) (b, l, s + 1) := by
  obtain ⟨r, hr, _⟩ := Next_spec l s n h0 h1 hn hl
  exact ⟨decide (r = 0), Ev.bind hr (Ev.now _)⟩
end Go.EV.Pure
namespace Go.EV.Pure
open Go Go.EV Go.RowKit
set_option linter.unusedSimpArgs false
set_option maxRecDepth 100000
/-! Strings that the stream draws: of ASCII, and short. -/
def GS (n : Nat) (s : ByteArray) : Prop := asciiT s = true ∧ s.size ≤ n
theorem ascii_app {a b : ByteArray} (ha : asciiT a = true) (hb : asciiT b = true) : asciiT (a ++ b) = true := by
  unfold asciiT at ha hb ⊢
  simp only [ByteArray.data_append, Array.toList_append, List.all_append, ha, hb, Bool.and_self]
theorem ascii_ext {a : ByteArray} (ha : asciiT a = true) (i j : Nat) : asciiT (a.extract i j) = true := by
  rw [mk_of a] at ha ⊢
  rw [mk_extract]
  exact ascii_sub ha fun b hb => List.mem_of_mem_take (List.mem_of_mem_drop hb)
theorem enc_ascii : ∀ b : UInt8, b.toNat < 128 → Utf8.encode (IntKind.i32.wrap (b.toNat : Int)) = mk [b] := all_bytes (by decide +kernel)
theorem GS.app {n m : Nat} {a b : ByteArray} (ha : GS n a) (hb : GS m b) : GS (n + m) (a ++ b) := ⟨ascii_app ha.1 hb.1, by rw [ByteArray.size_append]; have := ha.2; have := hb.2; omega⟩
theorem GS.mono {n m : Nat} {a : ByteArray} (ha : GS n a) (h : n ≤ m) : GS m a := ⟨ha.1, Nat.le_trans ha.2 h⟩
theorem Some_spec (l : List Int) (s : Int) (m : List ByteArray) (h0 : 0 ≤ s) (h1 : s ≤ 4611686018427387904) (hl : l.length ≤ 140737488351232) (hm : 1 ≤ m.length) (hm2 : m.length ≤ 1000) :
    ∃ r, Ev (fun k => pilemake_Stream_Some.f k l s m) (r, l, s + 1) ∧ r ∈ m := by
  obtain ⟨r, hr, r0, r1⟩ := Next_spec l s (m.length : Int) h0 h1 (by omega) hl
  have r2 := r1 (by omega)
  exact ⟨rdE eS m r, Ev.bind hr (Ev.pos r0 (Ev.pos r2 (Ev.now _))), rdE_mem eS m r r0 r2⟩
theorem Some_GS (n : Nat) (l : List Int) (s : Int) (m : List ByteArray) (h0 : 0 ≤ s) (h1 : s ≤ 4611686018427387904) (hl : l.length ≤ 140737488351232) (hm : 1 ≤ m.length) (hm2 : m.length ≤ 1000) (hg : ∀ r ∈ m, asciiT r = true ∧ r.size ≤ n) :
    ∃ r, Ev (fun k => pilemake_Stream_Some.f k l s m) (r, l, s + 1) ∧ GS n r := by
  obtain ⟨r, h, hr⟩ := Some_spec l s m h0 h1 hl hm hm2
  exact ⟨r, h, hg r hr⟩
theorem ext_le (x : ByteArray) (a b : Nat) : (x.extract a b).size ≤ x.size := by rw [ByteArray.size_extract]; omega
theorem Changed_fin (l : List Int) (s o : Int) (i X : Nat) (hi : i < X) (hX : X ≤ 1000000000) (A M Y Z : ByteArray) (hA : A.size ≤ 1000000000) (hM : M.size ≤ 1) (hY : Y.size ≤ 1000000000) (hZ : Z.size ≤ 1000000000) :
    ∃ r, (r = A ++ M ++ Y ∨ r = A ++ M ++ Z ∨ r = A ++ Y) ∧ Ev (fun k => (if o = 0 then (if 0 ≤ (i : Int) then (if (i : Int) ≤ (X : Int) then (if A.size + M.size ≤ 9223372036854775807 then (if 0 ≤ ((i + 1 : Nat) : Int) then (if ((i + 1 : Nat) : Int) ≤ (X : Int) then (if (A ++ M).size + Y.size ≤ 9223372036854775807 then Option.some ((A ++ M) ++ Y, l, s) else Option.none) else Option.none) else Option.none) else Option.none) else Option.none) else Option.none) else (if o = 1 then (if 0 ≤ (i : Int) then (if (i : Int) ≤ (X : Int) then (if A.size + M.size ≤ 9223372036854775807 then (if 0 ≤ (i : Int) then (if (i : Int) ≤ (X : Int) then (if (A ++ M).size + Z.size ≤ 9223372036854775807 then Option.some ((A ++ M) ++ Z, l, s) else Option.none) else Option.none) else Option.none) else Option.none) else Option.none) else Option.none) else (if 0 ≤ (i : Int) then (if (i : Int) ≤ (X : Int) then (if 0 ≤ ((i + 1 : Nat) : Int) then (if ((i + 1 : Nat) : Int) ≤ (X : Int) then (if A.size + Y.size ≤ 9223372036854775807 then Option.some (A ++ Y, l, s) else Option.none) else Option.none) else Option.none) else Option.none) else Option.none)))) (r, l, s) := by
  have e : (A ++ M).size = A.size + M.size := ByteArray.size_append
  rw [e]
  generalize A.size = a at hA
  generalize M.size = m at hM
  generalize Y.size = y at hY
  generalize Z.size = z at hZ
  clear e
  by_cases c1 : o = 0
  · exact ⟨_, .inl rfl, Ev.pos c1 (Ev.pos (by omega) (Ev.pos (by omega) (Ev.pos (by omega) (Ev.pos (by omega) (Ev.pos (by omega) (Ev.pos (by omega) (Ev.now _)))))))⟩
  · by_cases c2 : o = 1
    · exact ⟨_, .inr (.inl rfl), Ev.neg c1 (Ev.pos c2 (Ev.pos (by omega) (Ev.pos (by omega) (Ev.pos (by omega) (Ev.pos (by omega) (Ev.pos (by omega) (Ev.pos (by omega) (Ev.now _))))))))⟩
    · exact ⟨_, .inr (.inr rfl), Ev.neg c1 (Ev.neg c2 (Ev.pos (by omega) (Ev.pos (by omega) (Ev.pos (by omega) (Ev.pos (by omega) (Ev.pos (by omega) (Ev.now _)))))))⟩
theorem size_pos (y : ByteArray) (hy : ¬ y = (⟨#[]⟩ : ByteArray)) : 1 ≤ y.size := by
  rcases Nat.eq_zero_or_pos y.size with h | h
  · refine absurd ?_ hy
    apply ByteArray.ext
    apply Array.eq_empty_of_size_eq_zero
    exact h
  · exact h
theorem bt_enc (w : ByteArray) (hw : asciiT w = true) (d : Nat) (hd : d < w.size) : ∃ b : UInt8, Utf8.encode (IntKind.i32.wrap (bt w (d : Int))) = mk [b] ∧ asciiT (mk [b]) = true := by
  have hd : d < w.data.toList.length := by rw [Array.length_toList]; exact hd
  have hb : bt w (d : Int) = ((w.data.toList[d]).toNat : Int) := by
    conv => lhs; rw [mk_of w]
    rw [mk_bt _ d hd]
  have ha : (w.data.toList[d]).toNat < 128 := by
    unfold asciiT at hw
    rw [List.all_eq_true] at hw
    simpa using hw _ (List.getElem_mem hd)
  exact ⟨w.data.toList[d], by rw [hb]; exact enc_ascii _ ha, by rw [mk_ascii]; simpa using ha⟩
theorem Changed_GS (n : Nat) (l : List Int) (s : Int) (x w : ByteArray) (h0 : 0 ≤ s) (h1 : s ≤ 4611686018427387000) (hl : l.length ≤ 140737488351232) (hx : GS n x) (hn : n ≤ 100000000) (hw : GS 1000 w) (hw0 : ¬ w = (⟨#[]⟩ : ByteArray)) :
    ∃ r s', Ev (fun k => pilemake_Stream_Changed.f k l s x w) (r, l, s') ∧ (GS (n + 1 + n) r ∨ r = w) ∧ s ≤ s' ∧ s' ≤ s + 3 := by
  unfold pilemake_Stream_Changed.f
  by_cases c : x = (⟨#[]⟩ : ByteArray)
  · exact ⟨w, s, Ev.pos c (Ev.now _), .inr rfl, by omega, by omega⟩
  have sx := size_pos x c
  have sw := size_pos w hw0
  have hx2 := hx.2
  have hw2 := hw.2
  obtain ⟨i, ei, i0, i1⟩ := Next_spec l s (x.size : Int) h0 (by omega) (by omega) hl
  obtain ⟨d, ed, d0, d1⟩ := Next_spec l (s + 1) (w.size : Int) (by omega) (by omega) (by omega) hl
  obtain ⟨o, eo, o0, o1⟩ := Next_spec l (s + 1 + 1) 3 (by omega) (by omega) (by omega) hl
  have i2 := i1 (by omega)
  have d2 := d1 (by omega)
  clear i1 d1 o1
  obtain ⟨i, rfl⟩ : ∃ n : Nat, i = n := ⟨i.toNat, by omega⟩
  obtain ⟨d, rfl⟩ : ∃ n : Nat, d = n := ⟨d.toNat, by omega⟩
  obtain ⟨b, hb, ha⟩ := bt_enc w hw.1 d (by omega)
  have g1 : GS 1 (mk [b]) := ⟨ha, by rw [mk_size]; exact Nat.le_refl _⟩
  have w1 : wrap64 ((i : Int) + 1) = ((i + 1 : Nat) : Int) := wrap_succ (by omega)
  have gx : ∀ a b, GS n (x.extract a b) := fun a b => ⟨ascii_ext hx.1 a b, Nat.le_trans (ext_le x a b) hx.2⟩
  have zx : ∀ a b, (x.extract a b).size ≤ 1000000000 := fun a b => Nat.le_trans (ext_le x a b) (by omega)
  obtain ⟨r, h2, h3⟩ := Changed_fin l (s + 1 + 1 + 1) o i x.size (by omega) (by omega) (x.extract 0 i) (mk [b]) (x.extract (i + 1) x.size) (x.extract i x.size) (zx _ _) g1.2 (zx _ _) (zx _ _)
  refine ⟨r, s + 1 + 1 + 1, Ev.neg c (Ev.neg hw0 (Ev.bind ei (Ev.bind ed ?_))), .inl ?_, by omega, by omega⟩
  · refine Ev.pos d0 (Ev.pos d2 (Ev.bind eo ?_))
    simp only [hb, w1, Int.toNat_natCast]
    exact h3
  · rcases h2 with rfl | rfl | rfl
    · exact ((gx _ _).app g1).app (gx _ _)
    · exact ((gx _ _).app g1).app (gx _ _)
    · exact ((gx _ _).app (gx _ _)).mono (by omega)
end Go.EV.Pure
namespace Go.EV.Pure
open Go Go.EV Go.RowKit
end Go.EV.Pure
namespace Go.EV.Pure
open Go Go.EV Go.RowKit
set_option linter.unusedSimpArgs false
set_option maxRecDepth 100000
/-! The table of codes, words, and what can be said. -/
theorem index_hit (p rest : List UInt8) (h : (32 : UInt8) ∉ p) : Lib.index (p ++ 32 :: rest) [32] = (p.length : Int) := by
  induction p with
  | nil => simp [Lib.index, List.isPrefixOf]
  | cons b p ih =>
    have ih := ih (fun h' => h (by simp [h']))
    have hb : ¬ (32 : UInt8) = b := fun e => h (by simp [e])
    simp only [List.cons_append, Lib.index, List.isPrefixOf, beq_iff_eq, ih]
    have : ((32 : UInt8) == b) = false := by simpa using hb
    rw [this]
    simp <;> omega
theorem index_miss (p : List UInt8) (h : (32 : UInt8) ∉ p) : Lib.index p [32] = -1 := by
  induction p with
  | nil => simp [Lib.index]
  | cons b p ih =>
    have ih := ih (fun h' => h (by simp [h']))
    have hb : ¬ (32 : UInt8) = b := fun e => h (by simp [e])
    have : ((32 : UInt8) == b) = false := by simpa using hb
    simp only [Lib.index, List.isPrefixOf, ih, this]
    simp
def joinSp : List (List UInt8) → List UInt8
  | [] => []
  | [p] => p
  | p :: q :: r => p ++ 32 :: joinSp (q :: r)
theorem ext_head (p rest : List UInt8) : (mk (p ++ 32 :: rest)).extract 0 p.length = mk p := by
  rw [mk_extract]
  simp
theorem ext_tail (p rest : List UInt8) : (mk (p ++ 32 :: rest)).extract (p.length + 1) (mk (p ++ 32 :: rest)).size = mk rest := by
  rw [mk_extract, mk_size, List.take_length]
  congr 1
  rw [List.drop_append, List.drop_eq_nil_of_le (by omega), List.nil_append, Nat.add_sub_cancel_left]
  rfl
theorem split_all (sp : ByteArray) (hsp : sp = mk [32]) : ∀ (q : List UInt8) (r : List (List UInt8)), (∀ p ∈ q :: r, (32 : UInt8) ∉ p) → Lib.countB (mk (joinSp (q :: r))) sp = r.length ∧ Lib.splitB sp 0 r.length (mk (joinSp (q :: r))) = (q :: r).map mk
  | q, [], h => by
    subst hsp
    refine ⟨?_, rfl⟩
    exact Lib.countB_miss _ _ (index_miss q (h q (by simp)))
  | q, p :: r, h => by
    obtain ⟨h1, h2⟩ := split_all sp hsp p r (fun x hx => h x (by simp [List.mem_cons.1 hx]))
    subst hsp
    have hi : Lib.indexB (mk (joinSp (q :: p :: r))) (mk [32]) = ((q.length : Nat) : Int) := index_hit q _ (h q (by simp))
    have hs : (mk [32]).size = 1 := rfl
    have hj : joinSp (q :: p :: r) = q ++ 32 :: joinSp (p :: r) := rfl
    constructor
    · rw [Lib.countB_hit _ _ q.length (by rw [hs]; omega) hi, hs, hj, ext_tail, h1]
      simp
      omega
    · rw [List.length_cons, Lib.splitB_hit _ _ _ _ q.length hi, hs, hj, Nat.add_zero, ext_head, ext_tail, h2]
      rfl
theorem dec_at (p : List UInt8) (j : Nat) (h : j < p.length) (ha : p[j].toNat < 128) : Utf8.decode (mk p) j = (p[j].toNat, 1) :=
  decode_ascii (mk p) j (by rw [mk_size]; exact h) ha
/-- A text's words. -/
def wordsOf : List UInt8 → List (List UInt8)
  | [] => [[]]
  | b :: r => if b = 32 then [] :: wordsOf r else match wordsOf r with
    | [] => [[b]]
    | w :: q => (b :: w) :: q
theorem wordsOf_ne (p : List UInt8) : ∃ w q, wordsOf p = w :: q := by
  cases p with
  | nil => exact ⟨_, _, rfl⟩
  | cons b r =>
    unfold wordsOf
    split
    · exact ⟨_, _, rfl⟩
    · split
      · exact ⟨_, _, rfl⟩
      · exact ⟨_, _, rfl⟩
theorem joinSp_words : ∀ p : List UInt8, joinSp (wordsOf p) = p
  | [] => rfl
  | b :: r => by
    have ih := joinSp_words r
    obtain ⟨w, q, hw⟩ := wordsOf_ne r
    unfold wordsOf
    by_cases c : b = 32
    · rw [if_pos c, hw]
      rw [hw] at ih
      show [] ++ 32 :: joinSp (w :: q) = _
      rw [ih, c]; rfl
    · rw [if_neg c, hw]
      rw [hw] at ih
      cases q with
      | nil => show b :: w = _; rw [← ih]; rfl
      | cons x y => show (b :: w) ++ 32 :: joinSp (x :: y) = _; rw [← ih]; rfl
theorem words_no32 : ∀ (p : List UInt8), ∀ w ∈ wordsOf p, (32 : UInt8) ∉ w
  | [] => fun w hw => by
    have : w = [] := by simpa [wordsOf] using hw
    rw [this]; simp
  | b :: r => fun w hw => by
    have ih := words_no32 r
    obtain ⟨v, q, hv⟩ := wordsOf_ne r
    unfold wordsOf at hw
    by_cases c : b = 32
    · rw [if_pos c] at hw
      rcases List.mem_cons.1 hw with rfl | hw
      · simp
      · exact ih w hw
    · rw [if_neg c, hv] at hw
      rw [hv] at ih
      rcases List.mem_cons.1 hw with rfl | hw
      · intro hm
        rcases List.mem_cons.1 hm with h | h
        · exact c h.symm
        · exact ih v (by simp) h
      · exact ih w (by simp [hw])
theorem words_bytes : ∀ (p : List UInt8) (b : UInt8), b ≠ 32 → (b ∈ p ↔ ∃ w ∈ wordsOf p, b ∈ w)
  | [], b, hb => by simp [wordsOf]
  | a :: r, b, hb => by
    have ih := words_bytes r b hb
    obtain ⟨v, q, hv⟩ := wordsOf_ne r
    unfold wordsOf
    by_cases c : a = 32
    · rw [if_pos c]
      constructor
      · intro h
        rcases List.mem_cons.1 h with rfl | h
        · exact absurd c hb
        · obtain ⟨w, h1, h2⟩ := ih.1 h
          exact ⟨w, by simp [h1], h2⟩
      · rintro ⟨w, h1, h2⟩
        rcases List.mem_cons.1 h1 with rfl | h1
        · cases h2
        · exact List.mem_cons_of_mem _ (ih.2 ⟨w, h1, h2⟩)
    · rw [if_neg c, hv]
      rw [hv] at ih
      constructor
      · intro h
        rcases List.mem_cons.1 h with rfl | h
        · exact ⟨b :: v, by simp, by simp⟩
        · obtain ⟨w, h1, h2⟩ := ih.1 h
          rcases List.mem_cons.1 h1 with rfl | h1
          · exact ⟨a :: w, by simp, by simp [h2]⟩
          · exact ⟨w, by simp [h1], h2⟩
      · rintro ⟨w, h1, h2⟩
        rcases List.mem_cons.1 h1 with rfl | h1
        · rcases List.mem_cons.1 h2 with rfl | h2
          · simp
          · exact List.mem_cons_of_mem _ (ih.2 ⟨v, by simp, h2⟩)
        · exact List.mem_cons_of_mem _ (ih.2 ⟨w, by simp [h1], h2⟩)
theorem words_sum : ∀ p : List UInt8, ((wordsOf p).map fun w => w.length + 1).sum = p.length + 1
  | [] => rfl
  | b :: r => by
    have ih := words_sum r
    obtain ⟨v, q, hv⟩ := wordsOf_ne r
    unfold wordsOf
    by_cases c : b = 32
    · rw [if_pos c]
      simp only [List.map_cons, List.sum_cons, ih, List.length_cons, List.length_nil]
      omega
    · rw [if_neg c, hv]
      rw [hv] at ih
      simp only [List.map_cons, List.sum_cons, List.length_cons] at ih ⊢
      omega
theorem split_ev (p : List UInt8) (hp : p.length ≤ 1000000) : strings_Split.f (mk p) (⟨#[32]⟩ : ByteArray) = some ((wordsOf p).map mk) := by
  obtain ⟨w, q, hw⟩ := wordsOf_ne p
  have hj := joinSp_words p
  have hn := words_no32 p
  rw [hw] at hj hn ⊢
  obtain ⟨h1, h2⟩ := split_all (⟨#[32]⟩ : ByteArray) rfl w q hn
  rw [hj] at h1 h2
  unfold strings_Split.f
  rw [h1, h2, if_pos ⟨by rw [mk_size]; omega, by decide⟩]
def signsL : List UInt8 := [97, 98, 99, 100, 101, 102, 103, 104, 105, 106, 107, 108, 109, 110, 111, 112, 113, 114, 115, 116, 117, 118, 119, 120, 121, 122, 48, 49, 50, 51, 52, 53, 54, 55, 56, 57, 47, 63, 61, 43]
def codesL : List (List UInt8) := [[46, 45], [45, 46, 46, 46], [45, 46, 45, 46], [45, 46, 46], [46], [46, 46, 45, 46], [45, 45, 46], [46, 46, 46, 46], [46, 46], [46, 45, 45, 45], [45, 46, 45], [46, 45, 46, 46], [45, 45], [45, 46], [45, 45, 45], [46, 45, 45, 46], [45, 45, 46, 45], [46, 45, 46], [46, 46, 46], [45], [46, 46, 45], [46, 46, 46, 45], [46, 45, 45], [45, 46, 46, 45], [45, 46, 45, 45], [45, 45, 46, 46], [45, 45, 45, 45, 45], [46, 45, 45, 45, 45], [46, 46, 45, 45, 45], [46, 46, 46, 45, 45], [46, 46, 46, 46, 45], [46, 46, 46, 46, 46], [45, 46, 46, 46, 46], [45, 45, 46, 46, 46], [45, 45, 45, 46, 46], [45, 45, 45, 45, 46], [45, 46, 46, 45, 46], [46, 46, 45, 45, 46, 46], [45, 46, 46, 46, 45], [46, 45, 46, 45, 46]]
/-- A byte's place among the signs; 40: it is none. -/
def placeN (b : UInt8) : Nat := signsL.findIdx (· == b)
def isSign (b : UInt8) : Bool := Nat.blt (placeN b) 40
/-- The code of a byte; empty: it is no sign. -/
def codeL (b : UInt8) : List UInt8 := codesL.getD (placeN b) []
theorem code_facts : ∀ b : UInt8, (isSign b = true → codeL b ≠ []) ∧ (isSign b = false → codeL b = []) ∧ (codeL b).length ≤ 6 ∧ (∀ c ∈ codeL b, c.toNat < 128) ∧ isSign b = signsL.contains b ∧ (isSign b = true → b.toNat < 128 ∧ b ≠ 32) := all_bytes (by decide +kernel)
theorem codesL_len : codesL.length = 40 := rfl
theorem indexByte_find (c : UInt8) : ∀ p : List UInt8, c ∈ p → Lib.indexByte p c = (p.findIdx (· == c) : Nat)
  | [], h => by cases h
  | b :: r, h => by
    rw [Lib.indexByte, List.findIdx_cons]
    by_cases e : (b == c) = true
    · rw [if_pos e, e]; rfl
    · have e' : (b == c) = false := by simpa using e
      have hm : c ∈ r := by
        rcases List.mem_cons.1 h with h | h
        · exact absurd (by simp [h]) e
        · exact h
      have ih := indexByte_find c r hm
      rw [if_neg e, e', ih]
      have : (((List.findIdx (fun x => x == c) r : Nat) : Int) == -1) = false := by simp
      rw [this]
      simp
theorem sign_mem {b : UInt8} (h : isSign b = true) : b ∈ signsL := by
  have := (code_facts b).2.2.2.2.1
  rw [h] at this
  simpa using this.symm
theorem place_lt {b : UInt8} (h : isSign b = true) : placeN b < 40 := by
  unfold isSign at h
  simpa using h
/-! The document's table. -/
theorem splitCodes : strings_Split.f str_1 (⟨#[32]⟩ : ByteArray) = some (codesL.map mk) := by
  have e : str_1 = mk (joinSp codesL) := by
    apply ByteArray.ext
    rfl
  obtain ⟨h1, h2⟩ := split_all (⟨#[32]⟩ : ByteArray) rfl [46, 45] codesL.tail (by decide)
  have hl : ([46, 45] : List UInt8) :: codesL.tail = codesL := rfl
  rw [hl] at h1 h2
  unfold strings_Split.f
  rw [e, h1, h2, if_pos ⟨by rw [mk_size]; decide, by decide⟩]
theorem CodesOf_ev : ∃ R : List (ByteArray × ByteArray), Ev (fun k => pileref1_CodesOf.f k) R ∧ R.length = 40 ∧ ∀ (j : Nat) (h : j < R.length), R[j] = (mk [signsL.getD j 0], mk (codesL.getD j [])) := by
  have h1 : (str_2.size : Int) = 40 := rfl
  have hx : ∀ j : Fin 40, str_2.extract j.val (j.val + 1) = mk [signsL.getD j.val 0] := by decide +kernel
  obtain ⟨v, hv, he⟩ := loop (codesL.map mk) (fun k i (o : List (ByteArray × ByteArray)) => pileref1_CodesOf.l0 k (codesL.map mk) ((codesL.map mk).length : Int) i o)
    (fun i o => o.length = i ∧ ∀ (j : Nat) (h : j < o.length), o[j] = (mk [signsL.getD j 0], mk (codesL.getD j []))) (fun R => R.length = 40 ∧ ∀ (j : Nat) (h : j < R.length), R[j] = (mk [signsL.getD j 0], mk (codesL.getD j [])))
    (fun i o hi ⟨i1, i2⟩ => .inl ⟨o ++ [(mk [signsL.getD i 0], mk (codesL.getD i []))], ⟨by simp; omega, fun j h => by
      by_cases c : j < o.length
      · rw [List.getElem_append_left c]; exact i2 j c
      · have : j = o.length := by simp at h; omega
        subst this
        simp [i1]⟩, fun v hv => Ev.step (fun k => by
      have hlen : (codesL.map mk).length = 40 := rfl
      have hr : rdE eS (codesL.map mk) (i : Int) = mk (codesL.getD i []) := by rw [rdE_get eS _ i hi]; simp [List.getD, show i < codesL.length by rw [codesL_len]; omega]
      have hx2 := hx ⟨i, by omega⟩
      simp only at hx2
      simp only [pileref1_CodesOf.l0, hr, wrap_succ (show i ≤ 1000000000000000 by omega), h1, Int.toNat_natCast, hx2]
      rw [if_pos (by omega), if_pos (by omega), if_pos (by omega), if_pos (by omega), if_pos (by omega), if_pos (by omega), if_pos (by omega), if_pos (by simp; omega)]) hv⟩)
    (fun o ⟨i1, i2⟩ => ⟨o, ⟨i1, i2⟩, Ev.step (f := fun _ => some _) (fun k => by simp only [pileref1_CodesOf.l0]; rw [if_neg (by omega)]) (Ev.now _)⟩) 0 [] (by simp) ⟨rfl, fun j h => by simp at h⟩
  refine ⟨v, ?_, hv⟩
  unfold pileref1_CodesOf.f
  simp only [splitCodes, Option.bind_some]
  exact he
theorem codeOf_ev (b : UInt8) (h : isSign b = true) : Ev (fun k => pileref1_codeOf.f k (b.toNat : Int)) (mk (codeL b)) := by
  obtain ⟨R, hR, hl, hp⟩ := CodesOf_ev
  have hi := place_lt h
  unfold pileref1_codeOf.f
  refine Ev.bind hR ?_
  have hs : strings_IndexByte.f str_2 (b.toNat : Int) = some (placeN b : Int) := by
    unfold strings_IndexByte.f
    have e : str_2.data.toList = signsL := rfl
    have e2 : ((b.toNat : Int)).toNat.toUInt8 = b := by simp
    rw [e, e2, indexByte_find b signsL (sign_mem h)]
    rfl
  simp only [hs, Option.bind_some]
  refine Ev.pos (by omega) (Ev.pos (by omega) ?_)
  rw [rdE_get e_SS R (placeN b) (by omega), hp (placeN b) (by omega)]
  exact Ev.now _
/-! The program's table. -/
def byL : List (Int × ByteArray) := (signsL.zip codesL).map fun x => ((x.1.toNat : Int), mk x.2)
theorem byBytes_ev : Ev (fun k => key_byBytes.f k) byL := Ev.from 100 fun k => (by kernel_rfl : key_byBytes.f (k + 100) = some byL)
theorem mget_by : ∀ b : UInt8, mget (ByteArray.empty : ByteArray) byL (b.toNat : Int) = mk (codeL b) := all_bytes (by decide +kernel)
end Go.EV.Pure
namespace Go.EV.Pure
open Go Go.EV Go.RowKit
set_option linter.unusedSimpArgs false
set_option maxRecDepth 100000
/-! What can be said: both faults are the same. -/
def badW (p : List UInt8) : Bool := (wordsOf p).any List.isEmpty
def allS (p : List UInt8) : Bool := (wordsOf p).all fun w => w.all isSign
def saidF (p : List UInt8) : Int := if p.length > 500 then 2 else if badW p = true then 3 else if allS p = true then 0 else 3
theorem mk_nil (w : List UInt8) : mk w = (⟨#[]⟩ : ByteArray) ↔ w.isEmpty = true := by
  have : (⟨#[]⟩ : ByteArray) = mk [] := rfl
  rw [this, mk_inj]; simp
theorem Words_ev (p : List UInt8) (hp : p.length ≤ 1000000) : Ev (fun k => kit_Words.f k (mk p)) (if badW p = true then ([], false) else ((wordsOf p).map mk, true)) := by
  have hlen : (wordsOf p).length ≤ p.length + 1 := by
    rw [← words_sum p]
    have : ∀ l : List (List UInt8), l.length ≤ (l.map fun w => w.length + 1).sum := by
      intro l
      induction l with
      | nil => simp
      | cons a l ih => simp; omega
    exact this _
  unfold kit_Words.f
  simp only [split_ev p hp, Option.bind_some]
  obtain ⟨v, hv, he⟩ := loop (wordsOf p) (fun k i (_ : Unit) => kit_Words.l0 k ((wordsOf p).map mk) ((wordsOf p).map mk) (((wordsOf p).map mk).length : Int) i)
    (fun i _ => ((wordsOf p).take i).any List.isEmpty = false) (fun v => v = if badW p = true then ([], false) else ((wordsOf p).map mk, true))
    (fun i s hi hI => by
      have hr : rdE eS ((wordsOf p).map mk) (i : Int) = mk (wordsOf p)[i] := by rw [rdE_get eS _ i (by simpa using hi)]; simp
      have hl : ((wordsOf p).map mk).length = (wordsOf p).length := by simp
      by_cases c : (wordsOf p)[i].isEmpty = true
      · refine .inr ⟨([], false), ?_, Ev.succ ?_⟩
        · rw [if_pos]
          unfold badW
          rw [List.any_eq_true]
          exact ⟨_, List.getElem_mem hi, c⟩
        · simp only [kit_Words.l0, hr, hl]
          exact Ev.pos (by omega) (Ev.pos (by omega) (Ev.pos (by omega) (Ev.pos ((mk_nil _).2 c) (Ev.now _))))
      · refine .inl ⟨(), ?_, fun v hv => Ev.succ ?_⟩
        · rw [List.take_succ_eq_append_getElem hi, List.any_append, hI]
          simpa using c
        · simp only [kit_Words.l0, hr, hl, wrap_succ (show i ≤ 1000000000000000 by omega)]
          refine Ev.pos (by omega) (Ev.pos (by omega) (Ev.pos (by omega) (Ev.neg (fun h => c ((mk_nil _).1 h)) ?_)))
          simpa only [hl] using hv)
    (fun s hI => ⟨((wordsOf p).map mk, true), by
      rw [List.take_length] at hI
      rw [if_neg]
      unfold badW
      rw [hI]; simp, Ev.step (f := fun _ => some _) (fun k => by simp only [kit_Words.l0, List.length_map]; rw [if_neg (by omega)]) (Ev.now _)⟩) 0 () (by omega) (by simp)
  rw [hv] at he
  exact he
theorem drop_all {w : List UInt8} {j : Nat} (hj : j < w.length) : (w.drop j).all isSign = (isSign w[j] && (w.drop (j + 1)).all isSign) := by
  rw [List.drop_eq_getElem_cons hj, List.all_cons]
theorem CheckWord_ev (W : List ByteArray) (n : Int) (i : Nat) (w : List UInt8) (hw : rdE eS W (i : Int) = mk w) (hl : w.length ≤ 1000000) (hi : i ≤ 1000000) (v : Int) (d : Nat) :
    ∀ j : Nat, j + d = w.length → ((w.drop j).all isSign = true → Ev (fun k => key_CheckSaid.l0 k W n ((i + 1 : Nat) : Int) byL) v) → ((w.drop j).all isSign = false → v = 3) → Ev (fun k => key_CheckSaid.l1 k W n (i : Int) byL (j : Int)) v := by
  have hs := mk_size w
  induction d with
  | zero =>
    intro j hj h1 _
    refine Ev.succ ?_
    simp only [key_CheckSaid.l1, hw, hs, wrap_succ (show i ≤ 1000000000000000 by omega)]
    exact Ev.neg (by omega) (h1 (by rw [List.drop_eq_nil_of_le (by omega)]; rfl))
  | succ d ih =>
    intro j hj h1 h2
    have hjl : j < w.length := by omega
    have hb := mk_bt w j hjl
    have hd := drop_all hjl
    obtain ⟨f1, f2, _⟩ := code_facts w[j]
    refine Ev.succ ?_
    simp only [key_CheckSaid.l1, hw, hs, hb, mget_by, wrap_succ (show j ≤ 1000000000000000 by omega)]
    refine Ev.pos (by omega) (Ev.pos (by omega) (Ev.pos (by omega) ?_))
    by_cases c : isSign w[j] = true
    · have hn : ¬ mk (codeL w[j]) = (⟨#[]⟩ : ByteArray) := fun h => f1 c (by simpa using (mk_nil _).1 h)
      rw [c, Bool.true_and] at hd
      exact Ev.neg hn (ih (j + 1) (by omega) (fun h => h1 (by rw [hd]; exact h)) (fun h => h2 (by rw [hd]; exact h)))
    · have cf : isSign w[j] = false := by simpa using c
      rw [cf, Bool.false_and] at hd
      rw [h2 hd]
      exact Ev.pos ((mk_nil _).2 (by rw [f2 cf]; rfl)) (Ev.now _)
theorem CheckSaid_ev (p : List UInt8) (hp : p.length ≤ 1000000) : Ev (fun k => key_CheckSaid.f k (mk p)) (saidF p) := by
  have hs := mk_size p
  unfold key_CheckSaid.f saidF
  by_cases c0 : p.length > 500
  · rw [if_pos c0]; exact Ev.pos (by rw [hs]; omega) (Ev.now _)
  rw [if_neg c0]
  refine Ev.neg (by rw [hs]; omega) ?_
  have eW := Words_ev p hp
  by_cases c1 : badW p = true
  · rw [if_pos c1] at eW
    rw [if_pos c1]
    exact Ev.bind eW (Ev.neg (by simp) (Ev.now _))
  rw [if_neg c1] at eW
  rw [if_neg c1]
  refine Ev.bind eW (Ev.pos rfl (Ev.bind byBytes_ev ?_))
  have hsum := words_sum p
  have hwl : ∀ w ∈ wordsOf p, w.length ≤ p.length := fun w hw => by
    have : ∀ (l : List (List UInt8)), w ∈ l → w.length + 1 ≤ (l.map fun w => w.length + 1).sum := by
      intro l
      induction l with
      | nil => intro h; cases h
      | cons a l ih =>
        intro h
        simp only [List.map_cons, List.sum_cons]
        rcases List.mem_cons.1 h with rfl | h
        · omega
        · have := ih h; omega
    have := this _ hw
    omega
  have hlen : (wordsOf p).length ≤ p.length + 1 := by
    rw [← words_sum p]
    have : ∀ l : List (List UInt8), l.length ≤ (l.map fun w => w.length + 1).sum := by
      intro l
      induction l with
      | nil => simp
      | cons a l ih => simp; omega
    exact this _
  have hl : ((wordsOf p).map mk).length = (wordsOf p).length := by simp
  obtain ⟨v, hv, he⟩ := loop (wordsOf p) (fun k i (_ : Unit) => key_CheckSaid.l0 k ((wordsOf p).map mk) (((wordsOf p).map mk).length : Int) i byL)
    (fun i _ => ((wordsOf p).take i).all (fun w => w.all isSign) = true) (fun v => v = if allS p = true then 0 else 3)
    (fun i s hi hI => by
      have hr : rdE eS ((wordsOf p).map mk) (i : Int) = mk (wordsOf p)[i] := by rw [rdE_get eS _ i (by simpa using hi)]; simp
      have hwi := hwl _ (List.getElem_mem hi)
      by_cases c : (wordsOf p)[i].all isSign = true
      · refine .inl ⟨(), ?_, fun v hv => Ev.succ ?_⟩
        · rw [List.take_succ_eq_append_getElem hi, List.all_append, hI]
          simpa using c
        · simp only [key_CheckSaid.l0, hl]
          refine Ev.pos (by omega) (Ev.pos (by omega) (Ev.pos (by omega) ?_))
          rw [hl] at hv
          exact CheckWord_ev _ _ i _ hr (by omega) (by omega) v (wordsOf p)[i].length 0 (by omega) (fun _ => hv) (fun h => by
            have : (List.drop 0 (wordsOf p)[i]).all isSign = true := c
            rw [this] at h; cases h)
      · refine .inr ⟨3, ?_, Ev.succ ?_⟩
        · rw [if_neg]
          intro h
          unfold allS at h
          rw [List.all_eq_true] at h
          exact c (h _ (List.getElem_mem hi))
        · simp only [key_CheckSaid.l0, hl]
          refine Ev.pos (by omega) (Ev.pos (by omega) (Ev.pos (by omega) ?_))
          exact CheckWord_ev _ _ i _ hr (by omega) (by omega) 3 (wordsOf p)[i].length 0 (by omega) (fun h => absurd h c) (fun _ => rfl))
    (fun s hI => ⟨0, by
      rw [List.take_length] at hI
      rw [if_pos]
      exact hI, Ev.step (f := fun _ => some _) (fun k => by simp only [key_CheckSaid.l0, List.length_map]; rw [if_neg (by omega)]) (Ev.now _)⟩) 0 () (by omega) (by simp)
  rw [hv] at he
  exact he
theorem has_signsp : ∀ b : UInt8, (signsL ++ [32]).contains b = (isSign b || b == 32) := all_bytes (by decide +kernel)
theorem signsp_eq : str_0 = mk (signsL ++ [32]) := rfl
theorem all_signs (p : List UInt8) : allS p = p.all fun b => isSign b || b == 32 := by
  rw [Bool.eq_iff_iff, allS, List.all_eq_true, List.all_eq_true]
  constructor
  · intro h b hb
    by_cases c : b = 32
    · simp [c]
    · obtain ⟨w, h1, h2⟩ := (words_bytes p b c).1 hb
      have := h w h1
      rw [List.all_eq_true] at this
      rw [this b h2]; rfl
  · intro h w hw
    rw [List.all_eq_true]
    intro b hb
    have h32 : b ≠ 32 := fun e => words_no32 p w hw (e ▸ hb)
    have := h b ((words_bytes p b h32).2 ⟨w, hw, hb⟩)
    simpa [h32] using this
theorem crune (b : UInt8) (h : (isSign b || b == 32) = true) : pileref1_SaidFault_1.f (b.toNat : Int) = some false := by
  have hf : ∀ b : UInt8, (isSign b || b == 32) = true → b.toNat < 128 ∧ b ∈ signsL ++ [32] := fun b h => by
    have h1 := has_signsp b
    rw [h] at h1
    refine ⟨?_, by simpa using h1⟩
    rcases Bool.or_eq_true _ _ |>.mp h with h | h
    · exact ((code_facts b).2.2.2.2.2 h).1
    · have : b = 32 := by simpa using h
      rw [this]; decide
  obtain ⟨h1, h2⟩ := hf b h
  unfold pileref1_SaidFault_1.f strings_ContainsRune.f
  have e2 : ((b.toNat : Int)).toNat.toUInt8 = b := by simp
  rw [if_pos (by omega), signsp_eq, mk_data, e2, indexByte_find b _ h2]
  rfl
theorem SaidIdx_ev (p : List UInt8) (hp : p.length ≤ 1000000) (h : (p.all fun b => isSign b || b == 32) = true) (d : Nat) : ∀ j : Nat, j + d = p.length → Ev (fun k => strings_indexFunc_of_pileref1_SaidFault_1.l0 k (mk p) true j) (-1) := by
  have hs := mk_size p
  rw [List.all_eq_true] at h
  induction d with
  | zero =>
    intro j hj
    refine Ev.step (f := fun _ => some _) (fun k => ?_) (Ev.now _)
    simp only [strings_indexFunc_of_pileref1_SaidFault_1.l0, hs]
    rw [if_neg (by omega)]
  | succ d ih =>
    intro j hj
    have hjl : j < p.length := by omega
    have hb := h _ (List.getElem_mem hjl)
    have ha : (p[j]).toNat < 128 := by
      rcases Bool.or_eq_true _ _ |>.mp hb with h | h
      · exact ((code_facts _).2.2.2.2.2 h).1
      · have : p[j] = 32 := eq_of_beq h
        rw [this]; decide
    have hdec := dec_at p j hjl ha
    refine Ev.succ ?_
    simp only [strings_indexFunc_of_pileref1_SaidFault_1.l0, hdec, hs, crune _ hb, Option.bind_some]
    exact Ev.pos hjl (Ev.neg (by simp) (ih (j + 1) (by omega)))
theorem HasE_ev (W : List (List UInt8)) (hW : W.length ≤ 1000000) : Ev (fun k => slices_Contains_string_string.f k (W.map mk) (⟨#[]⟩ : ByteArray)) (W.any List.isEmpty) := by
  have hl : (W.map mk).length = W.length := by simp
  obtain ⟨v, hv, he⟩ := loop W (fun k i (_ : Unit) => slices_Index_string_string.l0 k (W.map mk) (⟨#[]⟩ : ByteArray) i)
    (fun i _ => (W.take i).any List.isEmpty = false) (fun v => decide (v ≥ 0) = W.any List.isEmpty)
    (fun i s hi hI => by
      have hr : rdE eS (W.map mk) (i : Int) = mk W[i] := by rw [rdE_get eS _ i (by simpa using hi)]; simp
      by_cases c : W[i].isEmpty = true
      · refine .inr ⟨i, ?_, Ev.succ ?_⟩
        · have : W.any List.isEmpty = true := by rw [List.any_eq_true]; exact ⟨_, List.getElem_mem hi, c⟩
          rw [this]; simp
        · simp only [slices_Index_string_string.l0, hr, hl]
          exact Ev.pos (by omega) (Ev.pos (by omega) (Ev.pos (by omega) (Ev.pos ((mk_nil _).2 c).symm (Ev.now _))))
      · refine .inl ⟨(), ?_, fun v hv => Ev.succ ?_⟩
        · rw [List.take_succ_eq_append_getElem hi, List.any_append, hI]
          simpa using c
        · simp only [slices_Index_string_string.l0, hr, hl, wrap_succ (show i ≤ 1000000000000000 by omega)]
          exact Ev.pos (by omega) (Ev.pos (by omega) (Ev.pos (by omega) (Ev.neg (fun h => c ((mk_nil _).1 h.symm)) hv))))
    (fun s hI => ⟨-1, by
      rw [List.take_length] at hI
      rw [hI]; rfl, Ev.step (f := fun _ => some _) (fun k => by simp only [slices_Index_string_string.l0, hl]; rw [if_neg (by omega)]) (Ev.now _)⟩) 0 () (by omega) (by simp)
  unfold slices_Contains_string_string.f slices_Index_string_string.f
  refine Ev.bind he ?_
  rw [hv]
  exact Ev.now _
theorem SaidFault_ev (p : List UInt8) (hp : p.length ≤ 1000000) : Ev (fun k => pileref1_SaidFault.f k (mk p)) (saidF p) := by
  have hs := mk_size p
  unfold pileref1_SaidFault.f saidF
  by_cases c0 : p.length > 500
  · rw [if_pos c0]; exact Ev.pos (by rw [hs]; omega) (Ev.now _)
  rw [if_neg c0]
  refine Ev.neg (by rw [hs]; omega) ?_
  by_cases c1 : p = []
  · have hb : badW p = true := by rw [c1]; decide
    rw [if_pos hb]
    exact Ev.pos ((mk_nil _).2 (by rw [c1]; rfl)) (Ev.now _)
  refine Ev.neg (fun h => c1 (by simpa using (mk_nil _).1 h)) ?_
  have hts : asciiT str_0 = true := by decide +kernel
  have htz : str_0.size < 4294967281 := by decide +kernel
  have ht : strings_Trim.f (mk p) str_0 = some (mk (Lib.trimS p (signsL ++ [32]))) := by
    unfold strings_Trim.f
    rw [if_pos ⟨by rw [hs]; omega, htz, hts⟩, mk_data, signsp_eq, mk_data]
    rfl
  simp only [ht, Option.bind_some]
  have hn : mk (Lib.trimS p (signsL ++ [32])) = (⟨#[]⟩ : ByteArray) ↔ allS p = true := by
    have : (⟨#[]⟩ : ByteArray) = mk [] := rfl
    rw [this, mk_inj, trimS_nil, all_signs, List.all_eq_true]
    constructor
    · intro h b hb; rw [← has_signsp]; exact h b hb
    · intro h b hb; rw [has_signsp]; exact h b hb
  have hlen : (wordsOf p).length ≤ p.length + 1 := by
    rw [← words_sum p]
    have : ∀ l : List (List UInt8), l.length ≤ (l.map fun w => w.length + 1).sum := by
      intro l
      induction l with
      | nil => simp
      | cons a l ih => simp; omega
    exact this _
  by_cases c2 : allS p = true
  · rw [if_pos c2]
    refine Ev.pos (hn.2 c2) ?_
    have hc : Ev (fun k => strings_ContainsFunc_of_pileref1_SaidFault_1.f k (mk p)) false :=
      Ev.bind (Ev.bind (SaidIdx_ev p hp (by rw [← all_signs]; exact c2) p.length 0 (by omega)) (Ev.now _)) (Ev.now _)
    refine Ev.bind hc (Ev.neg (by simp) ?_)
    simp only [split_ev p hp, Option.bind_some]
    refine Ev.bind (HasE_ev (wordsOf p) (by omega)) ?_
    by_cases c3 : badW p = true
    · rw [if_pos c3]; exact Ev.pos c3 (Ev.now _)
    · rw [if_neg c3]; exact Ev.neg c3 (Ev.now _)
  · rw [if_neg c2]
    have : (if badW p = true then (3 : Int) else 3) = 3 := by split <;> rfl
    rw [this]
    exact Ev.neg (fun h => c2 (hn.1 h)) (Ev.now _)
end Go.EV.Pure
namespace Go.EV.Pure
open Go Go.EV Go.RowKit
set_option linter.unusedSimpArgs false
set_option maxRecDepth 100000
/-! Marks and gaps: what is keyed, in both ways. -/
def mrk (u : Int) (c : UInt8) : Int := if c = 45 then 3 * u else u
def tailE (u : Int) (l : List UInt8) : List Int := l.flatMap fun c => [u, mrk u c]
def elE (u : Int) : List UInt8 → List Int
  | [] => []
  | a :: r => mrk u a :: tailE u r
def tailW (u s : Int) (l : List UInt8) : List Int := l.flatMap fun b => 3 * s :: elE u (codeL b)
def elW (u s : Int) : List UInt8 → List Int
  | [] => []
  | a :: r => elE u (codeL a) ++ tailW u s r
def tailT (u s : Int) (l : List (List UInt8)) : List Int := l.flatMap fun w => 7 * s :: elW u s w
def elT (u s : Int) : List (List UInt8) → List Int
  | [] => []
  | a :: r => elW u s a ++ tailT u s r
theorem elE_len (u : Int) (c : List UInt8) : (elE u c).length ≤ 2 * c.length := by
  cases c with
  | nil => simp [elE]
  | cons a r =>
    have : (tailE u r).length = 2 * r.length := by
      unfold tailE
      induction r with
      | nil => rfl
      | cons b r ih => simp only [List.flatMap_cons, List.length_append, ih, List.length_cons, List.length_nil]; omega
    simp only [elE, List.length_cons, this]
    omega
theorem elC_len (u : Int) (b : UInt8) : (elE u (codeL b)).length ≤ 12 := by
  have := elE_len u (codeL b)
  have := (code_facts b).2.2.1
  omega
theorem elW_len (u s : Int) (w : List UInt8) : (elW u s w).length ≤ 13 * w.length := by
  cases w with
  | nil => simp [elW]
  | cons a r =>
    have : (tailW u s r).length ≤ 13 * r.length := by
      unfold tailW
      induction r with
      | nil => exact Nat.le_refl _
      | cons b r ih => have := elC_len u b; simp only [List.flatMap_cons, List.length_append, List.length_cons]; omega
    have := elC_len u a
    simp only [elW, List.length_append, List.length_cons]
    omega
theorem elT_len (u s : Int) (W : List (List UInt8)) : (elT u s W).length ≤ 13 * (W.map fun w => w.length + 1).sum := by
  cases W with
  | nil => simp [elT]
  | cons a r =>
    have : (tailT u s r).length ≤ 13 * (r.map fun w => w.length + 1).sum := by
      unfold tailT
      induction r with
      | nil => exact Nat.le_refl _
      | cons b r ih => have := elW_len u s b; simp only [List.flatMap_cons, List.length_append, List.length_cons, List.map_cons, List.sum_cons]; omega
    have := elW_len u s a
    simp only [elT, List.length_append, List.map_cons, List.sum_cons]
    omega
def codesW (w : List UInt8) : List ByteArray := w.map fun b => mk (codeL b)
theorem words_ev (p : List UInt8) (hp : p.length ≤ 1000) : Ev (fun k => key_words.f k (mk p)) ((wordsOf p).map codesW) := by
  have hsum := words_sum p
  have hwl : ∀ w ∈ wordsOf p, w.length ≤ p.length := fun w hw => by
    have : ∀ (l : List (List UInt8)), w ∈ l → w.length + 1 ≤ (l.map fun w => w.length + 1).sum := by
      intro l
      induction l with
      | nil => intro h; cases h
      | cons a l ih =>
        intro h
        simp only [List.map_cons, List.sum_cons]
        rcases List.mem_cons.1 h with rfl | h
        · omega
        · have := ih h; omega
    have := this _ hw
    omega
  have hlen : (wordsOf p).length ≤ p.length + 1 := by
    rw [← words_sum p]
    have : ∀ l : List (List UInt8), l.length ≤ (l.map fun w => w.length + 1).sum := by
      intro l
      induction l with
      | nil => simp
      | cons a l ih => simp; omega
    exact this _
  unfold key_words.f
  refine Ev.bind byBytes_ev ?_
  simp only [split_ev p (by omega), Option.bind_some]
  have hl : ((wordsOf p).map mk).length = (wordsOf p).length := by simp
  have inner : ∀ (i : Nat) (w : List UInt8) (o : List (List ByteArray)) (v : List (List ByteArray)), rdE eS ((wordsOf p).map mk) (i : Int) = mk w → w.length ≤ 1000 → o.length ≤ 2000 → i ≤ 2000 →
      Ev (fun k => key_words.l0 k ((wordsOf p).map mk) (((wordsOf p).map mk).length : Int) ((i + 1 : Nat) : Int) (o ++ [codesW w]) byL) v →
      ∀ (d j : Nat), j + d = w.length → Ev (fun k => key_words.l1 k ((wordsOf p).map mk) (((wordsOf p).map mk).length : Int) (i : Int) o byL (j : Int) (codesW (w.take j))) v := by
    intro i w o v hw hwl ho hi hv d
    have hs := mk_size w
    induction d with
    | zero =>
      intro j hj
      refine Ev.succ ?_
      simp only [key_words.l1, hw, hs, wrap_succ (show i ≤ 1000000000000000 by omega)]
      rw [show w.take j = w from List.take_of_length_le (by omega)]
      exact Ev.neg (by omega) (Ev.pos (by omega) hv)
    | succ d ih =>
      intro j hj
      have hjl : j < w.length := by omega
      have hb := mk_bt w j hjl
      have ht : codesW (w.take (j + 1)) = codesW (w.take j) ++ [mk (codeL w[j])] := by rw [List.take_succ_eq_append_getElem hjl]; simp only [codesW, List.map_append, List.map_cons, List.map_nil]
      have hlt : (codesW (w.take j)).length ≤ 1000 := by simp [codesW]; omega
      have := ih (j + 1) (by omega)
      rw [ht] at this
      refine Ev.succ ?_
      simp only [key_words.l1, hw, hs, hb, mget_by, wrap_succ (show j ≤ 1000000000000000 by omega)]
      exact Ev.pos (by omega) (Ev.pos (by omega) (Ev.pos (by omega) (Ev.pos (by omega) this)))
  obtain ⟨v, hv, he⟩ := loop (wordsOf p) (fun k i (o : List (List ByteArray)) => key_words.l0 k ((wordsOf p).map mk) (((wordsOf p).map mk).length : Int) i o byL)
    (fun i o => o = ((wordsOf p).take i).map codesW) (fun v => v = (wordsOf p).map codesW)
    (fun i o hi ho => .inl (by
      have hr : rdE eS ((wordsOf p).map mk) (i : Int) = mk (wordsOf p)[i] := by rw [rdE_get eS _ i (by simpa using hi)]; simp
      have hwi := hwl _ (List.getElem_mem hi)
      have ht : ((wordsOf p).take (i + 1)).map codesW = o ++ [codesW (wordsOf p)[i]] := by rw [List.take_succ_eq_append_getElem hi, ho]; simp only [List.map_append, List.map_cons, List.map_nil]
      refine ⟨_, rfl, fun v hv => Ev.succ ?_⟩
      rw [ht] at hv
      simp only [key_words.l0]
      refine Ev.pos (by omega) (Ev.pos (by omega) (Ev.pos (by omega) ?_))
      exact inner i _ o v hr (by omega) (by rw [ho]; simp; omega) (by omega) hv (wordsOf p)[i].length 0 (by omega)))
    (fun o ho => ⟨o, by rw [ho, List.take_length], Ev.step (f := fun _ => some _) (fun k => by simp only [key_words.l0]; rw [if_neg (by omega)]) (Ev.now _)⟩) 0 [] (by omega) (by simp)
  rw [hv] at he
  exact he
def appE (u : Int) (n : Nat) (c : List UInt8) : List Int := if n = 0 then elE u c else tailE u (c.drop n)
def appW (u s : Int) (n : Nat) (c : List UInt8) : List Int := if n = 0 then elW u s c else tailW u s (c.drop n)
def appT (u s : Int) (n : Nat) (c : List (List UInt8)) : List Int := if n = 0 then elT u s c else tailT u s (c.drop n)
theorem appE_step (u : Int) (n : Nat) (c : List UInt8) (h : n < c.length) : appE u n c = (if n = 0 then [] else [u]) ++ [mrk u c[n]] ++ appE u (n + 1) c := by
  unfold appE
  cases n with
  | zero =>
    cases c with
    | nil => cases h
    | cons a r => simp [elE]
  | succ n => simp only [Nat.add_one_ne_zero, if_false]; rw [List.drop_eq_getElem_cons h]; rfl
theorem appW_step (u s : Int) (n : Nat) (c : List UInt8) (h : n < c.length) : appW u s n c = (if n = 0 then [] else [3 * s]) ++ elE u (codeL c[n]) ++ appW u s (n + 1) c := by
  unfold appW
  cases n with
  | zero =>
    cases c with
    | nil => cases h
    | cons a r => simp [elW]
  | succ n => simp only [Nat.add_one_ne_zero, if_false]; rw [List.drop_eq_getElem_cons h]; rfl
theorem appT_step (u s : Int) (n : Nat) (c : List (List UInt8)) (h : n < c.length) : appT u s n c = (if n = 0 then [] else [7 * s]) ++ elW u s c[n] ++ appT u s (n + 1) c := by
  unfold appT
  cases n with
  | zero =>
    cases c with
    | nil => cases h
    | cons a r => simp [elT]
  | succ n => simp only [Nat.add_one_ne_zero, if_false]; rw [List.drop_eq_getElem_cons h]; rfl
theorem appE_end (u : Int) (c : List UInt8) : appE u c.length c = [] := by
  unfold appE
  split
  · rename_i h
    have : c = [] := List.eq_nil_of_length_eq_zero h
    subst this; rfl
  · simp [tailE]
theorem appW_end (u s : Int) (c : List UInt8) : appW u s c.length c = [] := by
  unfold appW
  split
  · rename_i h
    have : c = [] := List.eq_nil_of_length_eq_zero h
    subst this; rfl
  · simp [tailW]
theorem appT_end (u s : Int) (c : List (List UInt8)) : appT u s c.length c = [] := by
  unfold appT
  split
  · rename_i h
    have : c = [] := List.eq_nil_of_length_eq_zero h
    subst this; rfl
  · simp [tailT]
theorem lenE (u s : Int) (X : List (List ByteArray)) (n : Int) (i k : Nat) (c : List UInt8) (hc : rdE eS (rdE e_L X (i : Int)) (k : Int) = mk c) (hu : 0 ≤ u ∧ u ≤ 2000) (hk : k ≤ 2000) (hcl : c.length ≤ 100) (F : List Int) (hF : F.length ≤ 1000000) (v : List Int)
    (hv : Ev (fun k' => key_lengths.l1 k' u s X n (i : Int) ((k + 1 : Nat) : Int) F) v) (d : Nat) :
    ∀ (j : Nat) (o : List Int), j + d = c.length → o ++ appE u j c = F → Ev (fun k' => key_lengths.l2 k' u s X n (i : Int) (k : Int) (j : Int) o) v := by
  have hs := mk_size c
  induction d with
  | zero =>
    intro j o hj hF2
    have : j = c.length := by omega
    subst this
    rw [appE_end, List.append_nil] at hF2
    subst hF2
    refine Ev.succ ?_
    simp only [key_lengths.l2, hc, hs, wrap_succ (show k ≤ 1000000000000000 by omega)]
    exact Ev.neg (by omega) hv
  | succ d ih =>
    intro j o hj hF2
    have hjl : j < c.length := by omega
    have hb := mk_bt c j hjl
    rw [appE_step u j c hjl] at hF2
    have j17 : ∀ o2, o2 ++ [mrk u c[j]] ++ appE u (j + 1) c = F → Ev (fun k' => key_lengths.j17 k' u s X n (i : Int) (k : Int) (j : Int) o2) v := by
      intro o2 h2
      have hl : o2.length + 1 ≤ 1000000 := by rw [← h2] at hF; simp at hF; omega
      have := ih (j + 1) (o2 ++ [mrk u c[j]]) (by omega) h2
      have j20 : ∀ x, x = mrk u c[j] → Ev (fun k' => key_lengths.j20 k' u s X n (i : Int) (k : Int) (j : Int) o2 x) v := by
        intro x hx
        subst hx
        refine Ev.succ ?_
        simp only [key_lengths.j20, wrap_succ (show j ≤ 1000000000000000 by omega)]
        exact Ev.pos (by omega) this
      refine Ev.succ ?_
      simp only [key_lengths.j17, hc, hs, hb]
      refine Ev.pos (by omega) (Ev.pos (by omega) ?_)
      by_cases c45 : ((c[j]).toNat : Int) = 45
      · refine Ev.pos c45 (j20 _ ?_)
        have : c[j] = 45 := by
          apply UInt8.toNat_inj.1
          have h45 : (45 : UInt8).toNat = 45 := rfl
          omega
        rw [wrap_id (by omega) (by omega), mrk, if_pos this]; omega
      · refine Ev.neg c45 (j20 _ ?_)
        rw [mrk, if_neg]
        intro h
        rw [h] at c45
        exact c45 rfl
    refine Ev.succ ?_
    simp only [key_lengths.l2, hc, hs]
    refine Ev.pos (by omega) ?_
    by_cases c0 : j = 0
    · rw [if_pos c0, List.nil_append] at hF2
      exact Ev.neg (by omega) (j17 o (by simpa using hF2))
    · rw [if_neg c0] at hF2
      have hl : o.length + 1 ≤ 1000000 := by rw [← hF2] at hF; simp at hF; omega
      exact Ev.pos (by omega) (Ev.pos (by omega) (j17 (o ++ [u]) (by simpa using hF2)))
theorem lenW (u s : Int) (X : List (List ByteArray)) (n : Int) (i : Nat) (w : List UInt8) (hw : rdE e_L X (i : Int) = codesW w) (hu : 0 ≤ u ∧ u ≤ 2000) (hs : 0 ≤ s ∧ s ≤ 2000) (hi : i ≤ 2000) (hwl : w.length ≤ 1000) (F : List Int) (hF : F.length ≤ 1000000) (v : List Int)
    (hv : Ev (fun k' => key_lengths.l0 k' u s X n ((i + 1 : Nat) : Int) F) v) (d : Nat) :
    ∀ (j : Nat) (o : List Int), j + d = w.length → o ++ appW u s j w = F → Ev (fun k' => key_lengths.l1 k' u s X n (i : Int) (j : Int) o) v := by
  have hl0 : (codesW w).length = w.length := by simp [codesW]
  induction d with
  | zero =>
    intro j o hj hF2
    have : j = w.length := by omega
    subst this
    rw [appW_end, List.append_nil] at hF2
    subst hF2
    refine Ev.succ ?_
    simp only [key_lengths.l1, hw, hl0, wrap_succ (show i ≤ 1000000000000000 by omega)]
    exact Ev.neg (by omega) hv
  | succ d ih =>
    intro j o hj hF2
    have hjl : j < w.length := by omega
    rw [appW_step u s j w hjl] at hF2
    have hr : rdE eS (codesW w) (j : Int) = mk (codeL w[j]) := by rw [rdE_get eS _ j (by omega)]; simp [codesW]
    have hcl := (code_facts w[j]).2.2.1
    have j12 : ∀ o2, o2 ++ elE u (codeL w[j]) ++ appW u s (j + 1) w = F → Ev (fun k' => key_lengths.j12 k' u s X n (i : Int) (j : Int) o2) v := by
      intro o2 h2
      have hl : (o2 ++ elE u (codeL w[j])).length ≤ 1000000 := by rw [← h2] at hF; simp at hF ⊢; omega
      have := ih (j + 1) (o2 ++ elE u (codeL w[j])) (by omega) h2
      refine Ev.succ ?_
      simp only [key_lengths.j12]
      exact lenE u s X n i j (codeL w[j]) (by rw [hw]; exact hr) hu (by omega) (by omega) (o2 ++ elE u (codeL w[j])) hl v this (codeL w[j]).length 0 o2 (by omega) (by simp [appE])
    refine Ev.succ ?_
    simp only [key_lengths.l1, hw, hl0, wrap_id (e := 3 * s) (by omega) (by omega)]
    refine Ev.pos (by omega) (Ev.pos (by omega) (Ev.pos (by omega) ?_))
    by_cases c0 : j = 0
    · rw [if_pos c0, List.nil_append] at hF2
      exact Ev.neg (by omega) (j12 o (by simpa using hF2))
    · rw [if_neg c0] at hF2
      have hl : o.length + 1 ≤ 1000000 := by rw [← hF2] at hF; simp at hF; omega
      exact Ev.pos (by omega) (Ev.pos (by omega) (j12 (o ++ [3 * s]) (by simpa using hF2)))
theorem lenT (u s : Int) (W : List (List UInt8)) (hu : 0 ≤ u ∧ u ≤ 2000) (hs : 0 ≤ s ∧ s ≤ 2000) (hW : W.length ≤ 1000) (hwl : ∀ w ∈ W, w.length ≤ 1000) (F : List Int) (hF : F.length ≤ 1000000) (d : Nat) :
    ∀ (j : Nat) (o : List Int), j + d = W.length → o ++ appT u s j W = F → Ev (fun k' => key_lengths.l0 k' u s (W.map codesW) ((W.map codesW).length : Int) (j : Int) o) F := by
  have hl0 : (W.map codesW).length = W.length := by simp
  induction d with
  | zero =>
    intro j o hj hF2
    have : j = W.length := by omega
    subst this
    rw [appT_end, List.append_nil] at hF2
    subst hF2
    refine Ev.step (f := fun _ => some _) (fun k => ?_) (Ev.now _)
    simp only [key_lengths.l0, hl0]
    rw [if_neg (by omega)]
  | succ d ih =>
    intro j o hj hF2
    have hjl : j < W.length := by omega
    rw [appT_step u s j W hjl] at hF2
    have hr : rdE e_L (W.map codesW) (j : Int) = codesW W[j] := by rw [rdE_get e_L _ j (by omega)]; simp
    have hcl := hwl _ (List.getElem_mem hjl)
    have j7 : ∀ o2, o2 ++ elW u s W[j] ++ appT u s (j + 1) W = F → Ev (fun k' => key_lengths.j7 k' u s (W.map codesW) ((W.map codesW).length : Int) (j : Int) o2) F := by
      intro o2 h2
      have hl : (o2 ++ elW u s W[j]).length ≤ 1000000 := by rw [← h2] at hF; simp at hF ⊢; omega
      have := ih (j + 1) (o2 ++ elW u s W[j]) (by omega) h2
      refine Ev.succ ?_
      simp only [key_lengths.j7]
      exact lenW u s (W.map codesW) _ j W[j] hr hu hs (by omega) hcl (o2 ++ elW u s W[j]) hl F this W[j].length 0 o2 (by omega) (by simp [appW])
    refine Ev.succ ?_
    simp only [key_lengths.l0, hl0, wrap_id (e := 7 * s) (by omega) (by omega)]
    simp only [hl0] at j7
    refine Ev.pos (by omega) (Ev.pos (by omega) (Ev.pos (by omega) ?_))
    by_cases c0 : j = 0
    · rw [if_pos c0, List.nil_append] at hF2
      exact Ev.neg (by omega) (j7 o (by simpa using hF2))
    · rw [if_neg c0] at hF2
      have hl : o.length + 1 ≤ 1000000 := by rw [← hF2] at hF; simp at hF; omega
      exact Ev.pos (by omega) (Ev.pos (by omega) (j7 (o ++ [7 * s]) (by simpa using hF2)))
theorem words_bd (p : List UInt8) : (wordsOf p).length ≤ p.length + 1 ∧ ∀ w ∈ wordsOf p, w.length ≤ p.length := by
  constructor
  · rw [← words_sum p]
    have : ∀ l : List (List UInt8), l.length ≤ (l.map fun w => w.length + 1).sum := by
      intro l
      induction l with
      | nil => simp
      | cons a l ih => simp; omega
    exact this _
  · intro w hw
    have : ∀ (l : List (List UInt8)), w ∈ l → w.length + 1 ≤ (l.map fun w => w.length + 1).sum := by
      intro l
      induction l with
      | nil => intro h; cases h
      | cons a l ih =>
        intro h
        simp only [List.map_cons, List.sum_cons]
        rcases List.mem_cons.1 h with rfl | h
        · omega
        · have := ih h; omega
    have := this _ hw
    rw [words_sum p] at this
    omega
theorem lengths_ev (p : List UInt8) (hp : p.length ≤ 500) (u s : Int) (hu : 0 ≤ u ∧ u ≤ 2000) (hs : 0 ≤ s ∧ s ≤ 2000) : Ev (fun k => key_lengths.f k (mk p) u s) (elT u s (wordsOf p)) := by
  obtain ⟨b1, b2⟩ := words_bd p
  have hF := elT_len u s (wordsOf p)
  rw [words_sum p] at hF
  unfold key_lengths.f
  refine Ev.bind (words_ev p (by omega)) ?_
  exact lenT u s (wordsOf p) hu hs (by omega) (fun w hw => by have := b2 w hw; omega) _ (by omega) (wordsOf p).length 0 [] (by omega) (by simp [appT])
end Go.EV.Pure
namespace Go.EV.Pure
open Go Go.EV Go.RowKit
set_option linter.unusedSimpArgs false
set_option maxRecDepth 100000
/-! The document's way to key. -/
def KO (u s : Int) : Int → List Int → List UInt8 → List Int
  | _, o, [] => o
  | g, o, b :: r => if b = 32 then KO u s (7 * s) o r else KO u s (3 * s) (if o = [] then elE u (codeL b) else o ++ g :: elE u (codeL b)) r
theorem elE_ne {u : Int} {c : List UInt8} (h : c ≠ []) : elE u c ≠ [] := by
  cases c with
  | nil => exact absurd rfl h
  | cons a r => simp [elE]
theorem KO_tail (u s : Int) : ∀ (w rest : List UInt8) (o : List Int), o ≠ [] → (∀ b ∈ w, isSign b = true) → KO u s (3 * s) o (w ++ rest) = KO u s (3 * s) (o ++ tailW u s w) rest
  | [], rest, o, _, _ => by simp [tailW]
  | b :: w, rest, o, ho, h => by
    have hb := (code_facts b).2.2.2.2.2 (h b (by simp))
    rw [List.cons_append, KO, if_neg hb.2, if_neg ho, KO_tail u s w rest _ (by simp) (fun c hc => h c (by simp [hc]))]
    simp [tailW]
theorem KO_word (u s : Int) (w rest : List UInt8) (hw : w ≠ []) (g : Int) (o : List Int) (h : ∀ b ∈ w, isSign b = true) : KO u s g o (w ++ rest) = KO u s (3 * s) (if o = [] then elW u s w else o ++ g :: elW u s w) rest ∧ (if o = [] then elW u s w else o ++ g :: elW u s w) ≠ [] := by
  cases w with
  | nil => exact absurd rfl hw
  | cons b w =>
    have hb := (code_facts b).2.2.2.2.2 (h b (by simp))
    have hc := (code_facts b).1 (h b (by simp))
    have he := elE_ne (u := u) hc
    constructor
    · rw [List.cons_append, KO, if_neg hb.2]
      by_cases c : o = []
      · rw [if_pos c, if_pos c, KO_tail u s w rest _ he (fun c hc => h c (by simp [hc]))]; rfl
      · rw [if_neg c, if_neg c, KO_tail u s w rest _ (by simp) (fun c hc => h c (by simp [hc]))]; simp [elW]
    · by_cases c : o = []
      · rw [if_pos c]; simp [elW, he]
      · rw [if_neg c]; simp
theorem KO_text (u s : Int) : ∀ (q : List (List UInt8)) (w : List UInt8) (g : Int) (o : List Int), (∀ x ∈ w :: q, x ≠ [] ∧ ∀ b ∈ x, isSign b = true) →
    KO u s g o (joinSp (w :: q)) = if o = [] then elT u s (w :: q) else o ++ g :: elT u s (w :: q)
  | [], w, g, o, h => by
    obtain ⟨h1, h2⟩ := h w (by simp)
    obtain ⟨e, _⟩ := KO_word u s w [] h1 g o h2
    rw [List.append_nil] at e
    show KO u s g o w = _
    rw [e]
    simp [KO, elT, tailT]
  | v :: q, w, g, o, h => by
    obtain ⟨h1, h2⟩ := h w (by simp)
    obtain ⟨e, hne⟩ := KO_word u s w (32 :: joinSp (v :: q)) h1 g o h2
    show KO u s g o (w ++ 32 :: joinSp (v :: q)) = _
    rw [e, KO, if_pos rfl, KO_text u s q v (7 * s) _ (fun x hx => h x (by simp [List.mem_cons.1 hx])), if_neg hne]
    by_cases c : o = []
    · rw [if_pos c, if_pos c]; simp [elT, tailT]
    · rw [if_neg c, if_neg c]; simp [elT, tailT]
theorem code_bytes : ∀ b : UInt8, ∀ c ∈ codeL b, c = 45 ∨ c = 46 := all_bytes (by decide +kernel)
theorem keyEl (u s : Int) (S : ByteArray) (i : Nat) (c : List UInt8) (hcl : c.length ≤ 6) (hc : ∀ x ∈ c, x = 45 ∨ x = 46) (hu : 0 ≤ u ∧ u ≤ 2000) (hs : 0 ≤ s ∧ s ≤ 2000) (hi : i ≤ 1000) (F : List Int) (hF : F.length ≤ 1000000) (v : List Int)
    (hv : Ev (fun k => pileref1_KeyedOf.l0 k S u s (3 * s) ((i + 1 : Nat) : Int) F) v) (d : Nat) :
    ∀ (j : Nat) (g : Int) (o : List Int), j + d = c.length → (1 ≤ j → o ≠ [] ∧ g = u) → (if j = 0 then (if c = [] then o else if o = [] then elE u c else o ++ g :: elE u c) else o ++ tailE u (c.drop j)) = F → Ev (fun k => pileref1_KeyedOf.l1 k S u s (i : Int) g o (mk c) j) v := by
  have hsz := mk_size c
  induction d with
  | zero =>
    intro j g o hj h1 h2
    refine Ev.succ ?_
    simp only [pileref1_KeyedOf.l1, hsz, wrap_id (e := 3 * s) (by omega) (by omega), wrap_succ (show i ≤ 1000000000000000 by omega)]
    have : o = F := by
      by_cases c0 : j = 0
      · rw [if_pos c0, if_pos (List.eq_nil_of_length_eq_zero (by omega))] at h2; exact h2
      · rw [if_neg c0, List.drop_eq_nil_of_le (by omega)] at h2; simpa [tailE] using h2
    rw [this]
    exact Ev.neg (by omega) hv
  | succ d ih =>
    intro j g o hj h1 h2
    have hjl : j < c.length := by omega
    have hcj := hc _ (List.getElem_mem hjl)
    have ha : c[j].toNat < 128 := by
      rcases hcj with h | h
      · rw [h]; decide
      · rw [h]; decide
    have hdec := dec_at c j hjl ha
    have hdrop : c.drop j = c[j] :: c.drop (j + 1) := List.drop_eq_getElem_cons hjl
    have hcne : c ≠ [] := fun h => by rw [h] at hjl; cases hjl
    have j13 : ∀ o2, o2 ++ mrk u c[j] :: tailE u (c.drop (j + 1)) = F → Ev (fun k => pileref1_KeyedOf.j13 k S u s (i : Int) (mk c) j o2) v := by
      intro o2 h3
      have hl : o2.length + 1 ≤ 1000000 := by rw [← h3] at hF; simp at hF; omega
      have := ih (j + 1) u (o2 ++ [mrk u c[j]]) (by omega) (fun _ => ⟨by simp, rfl⟩) (by rw [if_neg (by omega)]; simpa using h3)
      have j16 : Ev (fun k => pileref1_KeyedOf.j16 k S u s (i : Int) (mk c) j (o2 ++ [mrk u c[j]])) v := Ev.step (fun k => by simp only [pileref1_KeyedOf.j16, hdec]) this
      refine Ev.succ ?_
      simp only [pileref1_KeyedOf.j13, hdec, wrap_id (e := 3 * u) (by omega) (by omega)]
      by_cases c46 : ((c[j].toNat : Nat) : Int) = 46
      · have hm : mrk u c[j] = u := by
          rw [mrk, if_neg]
          intro h
          rw [h] at c46
          exact absurd c46 (by decide)
        rw [hm] at j16
        exact Ev.pos c46 (Ev.pos (by omega) j16)
      · have hm : mrk u c[j] = 3 * u := by
          rw [mrk, if_pos]
          rcases hcj with h | h
          · exact h
          · rw [h] at c46; exact absurd rfl c46
        rw [hm] at j16
        exact Ev.neg c46 (Ev.pos (by omega) j16)
    refine Ev.succ ?_
    simp only [pileref1_KeyedOf.l1, hsz]
    refine Ev.pos hjl ?_
    by_cases c0 : j = 0
    · subst c0
      rw [if_pos rfl, if_neg hcne] at h2
      have hel : elE u c = mrk u c[0] :: tailE u (c.drop 1) := by
        cases c with
        | nil => exact absurd rfl hcne
        | cons a r => rfl
      rw [hel] at h2
      by_cases co : o = []
      · rw [if_pos co] at h2
        subst co
        exact Ev.neg (by simp) (j13 [] (by simpa using h2))
      · rw [if_neg co] at h2
        have hl : o.length + 1 ≤ 1000000 := by rw [← h2] at hF; simp at hF; omega
        have hpos : 0 < o.length := List.length_pos_iff.2 co
        exact Ev.pos (by omega) (Ev.pos (by omega) (j13 (o ++ [g]) (by simpa using h2)))
    · obtain ⟨ho, rfl⟩ := h1 (by omega)
      have ht : tailE g (c[j] :: c.drop (j + 1)) = g :: mrk g c[j] :: tailE g (c.drop (j + 1)) := rfl
      rw [if_neg c0, hdrop, ht] at h2
      have hl : o.length + 1 ≤ 1000000 := by rw [← h2] at hF; simp at hF; omega
      have hpos : 0 < o.length := List.length_pos_iff.2 ho
      exact Ev.pos (by omega) (Ev.pos (by omega) (j13 (o ++ [g]) (by rw [List.append_assoc]; exact h2)))
theorem keyOf_run (u s : Int) (p : List UInt8) (hp : p.length ≤ 500) (hall : ∀ b ∈ p, isSign b = true ∨ b = 32) (hu : 0 ≤ u ∧ u ≤ 2000) (hs : 0 ≤ s ∧ s ≤ 2000) (d : Nat) :
    ∀ (j : Nat) (g : Int) (o : List Int), j + d = p.length → o.length ≤ 13 * j → Ev (fun k => pileref1_KeyedOf.l0 k (mk p) u s g (j : Int) o) (KO u s g o (p.drop j)) := by
  have hsz := mk_size p
  induction d with
  | zero =>
    intro j g o hj _
    rw [List.drop_eq_nil_of_le (by omega)]
    refine Ev.step (f := fun _ => some _) (fun k => ?_) (Ev.now _)
    simp only [pileref1_KeyedOf.l0, hsz]
    rw [if_neg (by omega)]
    rfl
  | succ d ih =>
    intro j g o hj ho
    have hjl : j < p.length := by omega
    have hb := mk_bt p j hjl
    rw [List.drop_eq_getElem_cons hjl, KO]
    refine Ev.succ ?_
    simp only [pileref1_KeyedOf.l0, hsz, hb, wrap_id (e := 7 * s) (by omega) (by omega), wrap_succ (show j ≤ 1000000000000000 by omega)]
    refine Ev.pos (by omega) (Ev.pos (by omega) (Ev.pos (by omega) ?_))
    by_cases c : p[j] = 32
    · rw [if_pos c]
      exact Ev.pos (by rw [c]; rfl) (ih (j + 1) _ o (by omega) (by omega))
    · rw [if_neg c]
      have hsg : isSign p[j] = true := (hall _ (List.getElem_mem hjl)).resolve_right c
      have hel := elC_len u p[j]
      refine Ev.neg (fun h => c ?_) (Ev.pos (by omega) (Ev.pos (by omega) (Ev.bind (codeOf_ev p[j] hsg) ?_)))
      · apply UInt8.toNat_inj.1
        have : (32 : UInt8).toNat = 32 := rfl
        omega
      · have hlen : (if o = [] then elE u (codeL p[j]) else o ++ g :: elE u (codeL p[j])).length ≤ 13 * (j + 1) := by
          split
          · omega
          · simp only [List.length_append, List.length_cons]; omega
        have hcn := (code_facts p[j]).1 hsg
        refine keyEl u s (mk p) j (codeL p[j]) (code_facts p[j]).2.2.1 (code_bytes p[j]) hu hs (by omega) _ (by omega) _ (ih (j + 1) (3 * s) _ (by omega) hlen) (codeL p[j]).length 0 g o (by omega) (fun h => absurd h (by omega)) ?_
        rw [if_pos rfl, if_neg hcn]
theorem said_all {p : List UInt8} (h : saidF p = 0) : p.length ≤ 500 ∧ (∀ b ∈ p, isSign b = true ∨ b = 32) ∧ ∀ x ∈ wordsOf p, x ≠ [] ∧ ∀ b ∈ x, isSign b = true := by
  unfold saidF at h
  split at h
  · cases h
  · rename_i c0
    split at h
    · cases h
    · rename_i c1
      split at h
      · rename_i c2
        have hal := c2
        rw [all_signs, List.all_eq_true] at c2
        refine ⟨by omega, fun b hb => by simpa using c2 b hb, fun x hx => ⟨fun e => c1 ?_, ?_⟩⟩
        · unfold badW
          rw [List.any_eq_true]
          exact ⟨x, hx, by rw [e]; rfl⟩
        · unfold allS at hal
          rw [List.all_eq_true] at hal
          have := hal x hx
          rw [List.all_eq_true] at this
          exact this
      · cases h
theorem KeyedOf_full (p : List UInt8) (h : saidF p = 0) (u s : Int) (hu : 0 ≤ u ∧ u ≤ 2000) (hs : 0 ≤ s ∧ s ≤ 2000) : Ev (fun k => pileref1_KeyedOf.f k (mk p) u s) (elT u s (wordsOf p)) := by
  obtain ⟨h1, h2, h3⟩ := said_all h
  have e := keyOf_run u s p h1 h2 hu hs p.length 0 0 [] (by omega) (by simp)
  rw [List.drop_zero] at e
  obtain ⟨w, q, hw⟩ := wordsOf_ne p
  rw [hw] at h3
  have hk := KO_text u s q w 0 [] h3
  rw [if_pos rfl, ← hw, joinSp_words] at hk
  rw [hk] at e
  exact e
end Go.EV.Pure
namespace Go.EV.Pure
open Go Go.EV Go.RowKit
set_option linter.unusedSimpArgs false
set_option maxRecDepth 100000
theorem joinTail_bd : ∀ (r : List (List UInt8)) (n : Nat), (∀ w ∈ r, w.length ≤ n ∧ ∀ b ∈ w, b.toNat < 128) → (Lib.joinTail [32] r).length ≤ (n + 1) * r.length ∧ ∀ b ∈ Lib.joinTail [32] r, b.toNat < 128
  | [], n, _ => by simp [Lib.joinTail]
  | w :: r, n, h => by
    obtain ⟨i1, i2⟩ := joinTail_bd r n (fun x hx => h x (by simp [hx]))
    obtain ⟨h1, h2⟩ := h w (by simp)
    have e : Lib.joinTail [32] (w :: r) = [32] ++ w ++ Lib.joinTail [32] r := by simp [Lib.joinTail]
    rw [e]
    constructor
    · simp only [List.length_append, List.length_cons, List.length_nil, Nat.mul_add]; omega
    · intro b hb
      rcases List.mem_append.1 hb with hb | hb
      · rcases List.mem_append.1 hb with hb | hb
        · have : b = 32 := by simpa using hb
          rw [this]; decide
        · exact h2 b hb
      · exact i2 b hb
theorem join_bd (O : List (List UInt8)) (n : Nat) (h : ∀ w ∈ O, w.length ≤ n ∧ ∀ b ∈ w, b.toNat < 128) : (Lib.join O [32]).length ≤ (n + 1) * O.length ∧ ∀ b ∈ Lib.join O [32], b.toNat < 128 := by
  cases O with
  | nil => rw [Lib.join_nil]; simp
  | cons a r =>
    rw [Lib.join_cons]
    obtain ⟨i1, i2⟩ := joinTail_bd r n (fun x hx => h x (by simp [hx]))
    obtain ⟨h1, h2⟩ := h a (by simp)
    constructor
    · simp only [List.length_append, List.length_cons, Nat.mul_add]; omega
    · intro b hb
      rcases List.mem_append.1 hb with hb | hb
      · exact h2 b hb
      · exact i2 b hb
theorem join_GS (o : List ByteArray) (n m : Nat) (ho : o.length ≤ m) (h : ∀ w ∈ o, GS n w) (hb : (n + 1) * m ≤ 100000) (hm : m ≤ 100000) : ∃ r, strings_Join.f o (⟨#[32]⟩ : ByteArray) = some r ∧ GS ((n + 1) * m) r := by
  have hl : ∀ w ∈ o.map (·.data.toList), w.length ≤ n ∧ ∀ b ∈ w, b.toNat < 128 := by
    intro w hw
    obtain ⟨s, hs, rfl⟩ := List.mem_map.1 hw
    obtain ⟨h1, h2⟩ := h s hs
    refine ⟨by rw [Array.length_toList]; exact h2, fun b hb => ?_⟩
    unfold asciiT at h1
    rw [List.all_eq_true] at h1
    simpa using h1 b hb
  obtain ⟨j1, j2⟩ := join_bd _ n hl
  rw [List.length_map] at j1
  have j3 := Nat.mul_le_mul_left (n + 1) ho
  refine ⟨mk (Lib.join (o.map (·.data.toList)) [32]), ?_, ?_, ?_⟩
  · unfold strings_Join.f
    have e : (⟨#[32]⟩ : ByteArray).data.toList = [32] := rfl
    rw [e, if_pos ⟨by omega, by omega⟩]
    rfl
  · rw [mk_ascii, List.all_eq_true]
    exact fun b hb => by simpa using j2 b hb
  · rw [mk_size]; omega
theorem Saying_spec (l : List Int) (s : Int) (h0 : 0 ≤ s) (h1 : s ≤ 4611686018427380000) (hl : l.length ≤ 140737488351232) :
    ∃ t s', Ev (fun k => pilemake_Stream_Saying.f k l s) (mk t, l, s') ∧ asciiT (mk t) = true ∧ t.length ≤ 200 ∧ s ≤ s' ∧ s' ≤ s + 100 := by
  let Q := fun (v : ByteArray × List Int × Int) => ∃ t s', v = (mk t, l, s') ∧ asciiT (mk t) = true ∧ t.length ≤ 200 ∧ s ≤ s' ∧ s' ≤ s + 100
  have j14 : ∀ (y : ByteArray) (s' : Int), GS 200 y → s ≤ s' → s' ≤ s + 100 → ∃ v, Q v ∧ Ev (fun k => pilemake_Stream_Saying.j14 k y l s') v := fun y s' hy q1 q2 =>
    ⟨(y, l, s'), ⟨y.data.toList, s', by rw [← mk_of], by rw [← mk_of]; exact hy.1, by rw [Array.length_toList]; exact hy.2, q1, q2⟩, Ev.from 1 fun k => rfl⟩
  obtain ⟨x7, e7, n0, n1⟩ := Range_spec l s 1 4 h0 (by omega) (by omega) (by omega) (by omega) hl
  have outer : ∀ (d : Nat) (i : Nat) (o : List ByteArray) (s' : Int), (i : Int) + d = x7 → o.length = i → (∀ w ∈ o, GS 5 w) → s + 1 + 0 ≤ s' → s' ≤ s + 1 + 6 * i →
      ∃ v, Q v ∧ Ev (fun k => pilemake_Stream_Saying.l0 k x7 (i : Int) o l s') v := by
    intro d
    induction d with
    | zero =>
      intro i o s' hd ho hw q1 q2
      obtain ⟨r, er, gr⟩ := join_GS o 5 4 (by omega) hw (by omega) (by omega)
      obtain ⟨b, eb⟩ := Flip_spec l s' 12 (by omega) (by omega) (by omega) hl
      by_cases c : b = true
      · obtain ⟨y, s2, ey, hy, p1, p2⟩ := Changed_GS ((5 + 1) * 4) l (s' + 1) r (⟨#[32, 97, 65, 46, 10]⟩ : ByteArray) (by omega) (by omega) hl gr (by omega) ⟨by decide +kernel, by decide +kernel⟩ (by decide +kernel)
        have hy : GS 200 y := by
          rcases hy with hy | rfl
          · exact hy.mono (by omega)
          · exact ⟨by decide +kernel, by decide +kernel⟩
        obtain ⟨v, qv, ev⟩ := j14 y s2 hy (by omega) (by omega)
        refine ⟨v, qv, Ev.succ ?_⟩
        simp only [pilemake_Stream_Saying.l0, er, Option.bind_some]
        exact Ev.neg (by omega) (Ev.bind eb (Ev.pos c (Ev.bind ey ev)))
      · obtain ⟨v, qv, ev⟩ := j14 r (s' + 1) (gr.mono (by omega)) (by omega) (by omega)
        refine ⟨v, qv, Ev.succ ?_⟩
        simp only [pilemake_Stream_Saying.l0, er, Option.bind_some]
        exact Ev.neg (by omega) (Ev.bind eb (Ev.neg c ev))
    | succ d ih =>
      intro i o s' hd ho hw q1 q2
      obtain ⟨m, em, m0, m1⟩ := Range_spec l s' 1 5 (by omega) (by omega) (by omega) (by omega) (by omega) hl
      have inner : ∀ (f : Nat) (j : Nat) (t : ByteArray) (s2 : Int), (j : Int) + f = m → GS j t → s' + 1 ≤ s2 → s2 ≤ s' + 1 + j → ∃ v, Q v ∧ Ev (fun k => pilemake_Stream_Saying.l1 k x7 (i : Int) o t m (j : Int) l s2) v := by
        intro f
        induction f with
        | zero =>
          intro j t s2 hf ht p1 p2
          obtain ⟨v, qv, ev⟩ := ih (i + 1) (o ++ [t]) s2 (by omega) (by simp; omega) (fun w hw2 => by
            rcases List.mem_append.1 hw2 with hw2 | hw2
            · exact hw w hw2
            · obtain rfl : w = t := by simpa using hw2
              exact ht.mono (by omega)) (by omega) (by omega)
          refine ⟨v, qv, Ev.succ ?_⟩
          simp only [pilemake_Stream_Saying.l1, wrap_succ (show i ≤ 1000000000000000 by omega)]
          exact Ev.neg (by omega) (Ev.pos (by omega) ev)
        | succ f ihf =>
          intro j t s2 hf ht p1 p2
          obtain ⟨x, ex, gx⟩ := Some_GS 1 l s2 [(⟨#[101]⟩ : ByteArray), (⟨#[116]⟩ : ByteArray), (⟨#[97]⟩ : ByteArray), (⟨#[110]⟩ : ByteArray), (⟨#[107]⟩ : ByteArray), (⟨#[112]⟩ : ByteArray), (⟨#[53]⟩ : ByteArray), (⟨#[48]⟩ : ByteArray), (⟨#[47]⟩ : ByteArray), (⟨#[63]⟩ : ByteArray), (⟨#[61]⟩ : ByteArray), (⟨#[43]⟩ : ByteArray), (⟨#[113]⟩ : ByteArray), (⟨#[122]⟩ : ByteArray)] (by omega) (by omega) hl (by simp) (by simp) (by decide +kernel)
          obtain ⟨v, qv, ev⟩ := ihf (j + 1) (t ++ x) (s2 + 1) (by omega) (ht.app gx) (by omega) (by omega)
          have z1 := ht.2
          have z2 := gx.2
          refine ⟨v, qv, Ev.succ ?_⟩
          simp only [pilemake_Stream_Saying.l1, wrap_succ (show j ≤ 1000000000000000 by omega)]
          exact Ev.pos (by omega) (Ev.bind ex (Ev.pos (by simp only; omega) ev))
      obtain ⟨v, qv, ev⟩ := inner m.toNat 0 (⟨#[]⟩ : ByteArray) (s' + 1) (by omega) ⟨by decide, by decide⟩ (by omega) (by omega)
      refine ⟨v, qv, Ev.succ ?_⟩
      simp only [pilemake_Stream_Saying.l0]
      exact Ev.pos (by omega) (Ev.bind em ev)
  obtain ⟨v, ⟨t, s', rfl, t1, t2, q1, q2⟩, ev⟩ := outer x7.toNat 0 [] (s + 1) (by omega) rfl (fun w hw => by cases hw) (by omega) (by omega)
  exact ⟨t, s', Ev.bind e7 ev, t1, t2, q1, q2⟩
end Go.EV.Pure
namespace Go.EV.Pure
open Go Go.EV Go.RowKit
set_option linter.unusedSimpArgs false
set_option maxRecDepth 100000
theorem joinTl_len (sep : List UInt8) (q : Nat) (hq : sep.length ≤ q) : ∀ (r : List (List UInt8)) (n : Nat), (∀ w ∈ r, w.length ≤ n) → (Lib.joinTail sep r).length ≤ (n + q) * r.length
  | [], n, _ => by simp [Lib.joinTail]
  | w :: r, n, h => by
    have i1 := joinTl_len sep q hq r n (fun x hx => h x (by simp [hx]))
    have h1 := h w (by simp)
    have e : Lib.joinTail sep (w :: r) = sep ++ w ++ Lib.joinTail sep r := by simp [Lib.joinTail]
    rw [e]
    simp only [List.length_append, List.length_cons, Nat.mul_add]; omega
theorem join_len (sep : List UInt8) (q : Nat) (hq : sep.length ≤ q) (O : List (List UInt8)) (n : Nat) (h : ∀ w ∈ O, w.length ≤ n) : (Lib.join O sep).length ≤ (n + q) * O.length := by
  cases O with
  | nil => rw [Lib.join_nil]; simp
  | cons a r =>
    rw [Lib.join_cons]
    have i1 := joinTl_len sep q hq r n (fun x hx => h x (by simp [hx]))
    have h1 := h a (by simp)
    simp only [List.length_append, List.length_cons, Nat.mul_add]; omega
theorem joinTail_mem (sep : List UInt8) (b : UInt8) : ∀ (r : List (List UInt8)), b ∈ Lib.joinTail sep r → b ∈ sep ∨ ∃ w ∈ r, b ∈ w
  | [], h => by simp [Lib.joinTail] at h
  | w :: r, h => by
    have e : Lib.joinTail sep (w :: r) = sep ++ w ++ Lib.joinTail sep r := by simp [Lib.joinTail]
    rw [e] at h
    rcases List.mem_append.1 h with h | h
    · rcases List.mem_append.1 h with h | h
      · exact .inl h
      · exact .inr ⟨w, by simp, h⟩
    · rcases joinTail_mem sep b r h with h | ⟨x, hx, hb⟩
      · exact .inl h
      · exact .inr ⟨x, by simp [hx], hb⟩
theorem join_mem (sep : List UInt8) (b : UInt8) (O : List (List UInt8)) (h : b ∈ Lib.join O sep) : b ∈ sep ∨ ∃ w ∈ O, b ∈ w := by
  cases O with
  | nil => rw [Lib.join_nil] at h; cases h
  | cons a r =>
    rw [Lib.join_cons] at h
    rcases List.mem_append.1 h with h | h
    · exact .inr ⟨a, by simp, h⟩
    · rcases joinTail_mem sep b r h with h | ⟨x, hx, hb⟩
      · exact .inl h
      · exact .inr ⟨x, by simp [hx], hb⟩
theorem join_snoc (sep : List UInt8) (O : List (List UInt8)) (s : List UInt8) : Lib.join (O ++ [s]) sep = if O = [] then s else Lib.join O sep ++ sep ++ s := by
  cases O with
  | nil => rw [if_pos rfl, List.nil_append, Lib.join_one]
  | cons a r =>
    rw [if_neg (by simp), List.cons_append, Lib.join_cons, Lib.join_cons]
    have : Lib.joinTail sep (r ++ [s]) = Lib.joinTail sep r ++ sep ++ s := by simp [Lib.joinTail]
    rw [this]
    simp
theorem join_f (O : List (List UInt8)) (sep : List UInt8) (n : Nat) (hO : O.length ≤ 100000) (hs : sep.length ≤ 10) (hn : n ≤ 100000000) (h : ∀ w ∈ O, w.length ≤ n) : strings_Join.f (O.map mk) (mk sep) = some (mk (Lib.join O sep)) := by
  have hl := join_len sep 10 hs O n h
  have hm := Nat.mul_le_mul (show n + 10 ≤ 100000010 by omega) hO
  have e : (O.map mk).map (·.data.toList) = O := by
    rw [List.map_map]
    conv => rhs; rw [← List.map_id O]
    exact List.map_congr_left fun x _ => mk_data x
  unfold strings_Join.f
  rw [e, mk_data, if_pos ⟨by simp; omega, by omega⟩]
  rfl
end Go.EV.Pure
namespace Go.EV.Pure
open Go Go.EV Go.RowKit
set_option linter.unusedSimpArgs false
set_option maxRecDepth 100000
/-! The table of signs, codes written and read, both ways. -/
def sgL : List (ByteArray × ByteArray) := (signsL.zip codesL).map fun x => (mk [x.1], mk x.2)
theorem sgL_at (j : Nat) (h : j < 40) : sgL[j]'(by rw [show sgL.length = 40 from rfl]; exact h) = (mk [signsL.getD j 0], mk (codesL.getD j [])) := by
  have h1 : j < signsL.length := h
  have h2 : j < codesL.length := h
  simp [sgL, List.getD, List.getElem?_eq_getElem h1, List.getElem?_eq_getElem h2]
theorem CodesOf_sg : Ev (fun k => pileref1_CodesOf.f k) sgL := by
  obtain ⟨R, hR, hl, hp⟩ := CodesOf_ev
  have : R = sgL := by
    apply List.ext_getElem
    · rw [hl]; rfl
    · intro j h1 h2
      rw [hp j h1, sgL_at j (by omega)]
  rw [← this]
  exact hR
theorem Codes_sg : Ev (fun k => key_Codes.f k) sgL := Ev.from 100 fun k => (by kernel_rfl : key_Codes.f (k + 100) = some sgL)
theorem EqualSg (D : List (ByteArray × ByteArray)) (hl : D.length ≤ 20000) : Ev (fun k => slices_Equal_api_Signed_api_Signed.f k D D) true := by
  obtain ⟨v, rfl, hv⟩ := loop D (fun k i (_ : Unit) => slices_Equal_api_Signed_api_Signed.l0 k D D i) (fun _ _ => True) (fun v => v = true)
    (fun i _ hi _ => .inl ⟨(), trivial, fun v hv => Ev.step (fun k => by
      simp only [slices_Equal_api_Signed_api_Signed.l0]
      rw [if_pos (by omega), if_pos (by omega), if_pos (by omega), if_pos (by omega), if_pos (by omega), if_pos (by simp), wrap_succ (by omega)]) hv⟩)
    (fun _ _ => ⟨true, rfl, Ev.step (f := fun _ => some _) (fun k => by simp only [slices_Equal_api_Signed_api_Signed.l0]; rw [if_neg (by omega)]) (Ev.now _)⟩) 0 () (by omega) trivial
  unfold slices_Equal_api_Signed_api_Signed.f
  exact Ev.pos rfl hv
/-! codes written -/
def cw (w : List UInt8) : List UInt8 := Lib.join (w.map codeL) [32]
def codedL (p : List UInt8) : List UInt8 := Lib.join ((wordsOf p).map cw) [32, 47, 32]
theorem cw_f (w : List UInt8) (hw : w.length ≤ 1000) : strings_Join.f (codesW w) (⟨#[32]⟩ : ByteArray) = some (mk (cw w)) := by
  have := join_f (w.map codeL) [32] 6 (by simp; omega) (by simp) (by omega) (fun x hx => by
    obtain ⟨b, _, rfl⟩ := List.mem_map.1 hx
    exact (code_facts b).2.2.1)
  rw [List.map_map] at this
  exact this
theorem cw_len (w : List UInt8) : (cw w).length ≤ 7 * w.length := by
  have := join_len [32] 1 (by simp) (w.map codeL) 6 (fun x hx => by
    obtain ⟨b, _, rfl⟩ := List.mem_map.1 hx
    exact (code_facts b).2.2.1)
  simpa [cw] using this
theorem coded_f (p : List UInt8) (hp : p.length ≤ 500) : strings_Join.f (((wordsOf p).map cw).map mk) (⟨#[32, 47, 32]⟩ : ByteArray) = some (mk (codedL p)) := by
  obtain ⟨b1, b2⟩ := words_bd p
  exact join_f ((wordsOf p).map cw) [32, 47, 32] 10000 (by simp; omega) (by simp) (by omega) (fun x hx => by
    obtain ⟨w, hw, rfl⟩ := List.mem_map.1 hx
    have := cw_len w
    have := b2 w hw
    omega)
theorem coded_GS (p : List UInt8) (hp : p.length ≤ 500) : GS 2000000 (mk (codedL p)) := by
  obtain ⟨b1, b2⟩ := words_bd p
  have hl := join_len [32, 47, 32] 3 (by simp) ((wordsOf p).map cw) 3500 (fun x hx => by
    obtain ⟨w, hw, rfl⟩ := List.mem_map.1 hx
    have := cw_len w
    have := b2 w hw
    omega)
  rw [List.length_map] at hl
  have hm := Nat.mul_le_mul_left (3500 + 3) (show (wordsOf p).length ≤ 501 by omega)
  refine ⟨?_, by rw [mk_size]; exact Nat.le_trans hl (by omega)⟩
  rw [mk_ascii, List.all_eq_true]
  intro b hb
  have : b.toNat < 128 := by
    rcases join_mem _ b _ hb with h | ⟨x, hx, h⟩
    · exact (show ∀ b ∈ ([32, 47, 32] : List UInt8), b.toNat < 128 by decide) b h
    · obtain ⟨w, _, rfl⟩ := List.mem_map.1 hx
      rcases join_mem _ b _ h with h | ⟨y, hy, h⟩
      · exact (show ∀ b ∈ ([32] : List UInt8), b.toNat < 128 by decide) b h
      · obtain ⟨c, _, rfl⟩ := List.mem_map.1 hy
        exact (code_facts c).2.2.2.1 b h
  simpa using this
theorem Code_ev (p : List UInt8) (h : saidF p = 0) : Ev (fun k => key_Code.f k (mk p)) (mk (codedL p), 0) := by
  obtain ⟨h1, _, _⟩ := said_all h
  obtain ⟨b1, b2⟩ := words_bd p
  have e1 := CheckSaid_ev p (by omega)
  rw [h] at e1
  unfold key_Code.f
  refine Ev.bind e1 (Ev.pos rfl (Ev.bind (words_ev p (by omega)) ?_))
  have hl : ((wordsOf p).map codesW).length = (wordsOf p).length := by simp
  obtain ⟨v, hv, he⟩ := loop (wordsOf p) (fun k i (o : List ByteArray) => key_Code.l0 k ((wordsOf p).map codesW) (((wordsOf p).map codesW).length : Int) i o)
    (fun i o => o = (((wordsOf p).take i).map cw).map mk) (fun v => v = (mk (codedL p), 0))
    (fun i o hi ho => .inl ⟨_, rfl, fun v hv => Ev.succ (by
      have hr : rdE e_L ((wordsOf p).map codesW) (i : Int) = codesW (wordsOf p)[i] := by rw [rdE_get e_L _ i (by omega)]; simp
      have hwi := b2 _ (List.getElem_mem hi)
      have hol : o.length ≤ 1000 := by rw [ho]; simp; omega
      have ht : (((wordsOf p).take (i + 1)).map cw).map mk = o ++ [mk (cw (wordsOf p)[i])] := by rw [List.take_succ_eq_append_getElem hi, ho]; simp only [List.map_append, List.map_cons, List.map_nil]
      rw [ht] at hv
      simp only [key_Code.l0, hr, cw_f _ (show (wordsOf p)[i].length ≤ 1000 by omega), Option.bind_some, wrap_succ (show i ≤ 1000000000000000 by omega)]
      exact Ev.pos (by omega) (Ev.pos (by omega) (Ev.pos (by omega) (Ev.pos (by omega) hv))))⟩)
    (fun o ho => ⟨_, rfl, Ev.step (f := fun _ => some _) (fun k => by
      rw [List.take_length] at ho
      simp only [key_Code.l0, hl]
      rw [if_neg (by omega), ho, coded_f p h1]
      rfl) (Ev.now _)⟩) 0 [] (by omega) (by simp)
  rw [hv] at he
  exact he
theorem codedIn (p : List UInt8) (hp : p.length ≤ 500) (i : Nat) (w : List UInt8) (o : List ByteArray) (hw : rdE eS ((wordsOf p).map mk) (i : Int) = mk w) (hwl : w.length ≤ 1000) (hall : ∀ b ∈ w, isSign b = true) (ho : o.length ≤ 2000) (hi : i ≤ 2000) (v : ByteArray)
    (hv : Ev (fun k => pileref1_CodedOf.l0 k ((wordsOf p).map mk) (((wordsOf p).map mk).length : Int) ((i + 1 : Nat) : Int) (o ++ [mk (cw w)])) v) (d : Nat) :
    ∀ j : Nat, j + d = w.length → Ev (fun k => pileref1_CodedOf.l1 k ((wordsOf p).map mk) (((wordsOf p).map mk).length : Int) (i : Int) o (j : Int) (codesW (w.take j))) v := by
  have hs := mk_size w
  induction d with
  | zero =>
    intro j hj
    refine Ev.succ ?_
    rw [show w.take j = w from List.take_of_length_le (by omega)]
    simp only [pileref1_CodedOf.l1, hw, hs, cw_f w hwl, Option.bind_some, wrap_succ (show i ≤ 1000000000000000 by omega)]
    exact Ev.neg (by omega) (Ev.pos (by omega) hv)
  | succ d ih =>
    intro j hj
    have hjl : j < w.length := by omega
    have hb := mk_bt w j hjl
    have ht : codesW (w.take (j + 1)) = codesW (w.take j) ++ [mk (codeL w[j])] := by rw [List.take_succ_eq_append_getElem hjl]; simp only [codesW, List.map_append, List.map_cons, List.map_nil]
    have hlt : (codesW (w.take j)).length ≤ 1000 := by simp [codesW]; omega
    have := ih (j + 1) (by omega)
    rw [ht] at this
    refine Ev.succ ?_
    simp only [pileref1_CodedOf.l1, hw, hs, hb, wrap_succ (show j ≤ 1000000000000000 by omega)]
    exact Ev.pos (by omega) (Ev.pos (by omega) (Ev.pos (by omega) (Ev.bind (codeOf_ev _ (hall _ (List.getElem_mem hjl))) (Ev.pos (by omega) this))))
theorem CodedOf_full (p : List UInt8) (h : saidF p = 0) : Ev (fun k => pileref1_CodedOf.f k (mk p)) (mk (codedL p)) := by
  obtain ⟨h1, _, h3⟩ := said_all h
  obtain ⟨b1, b2⟩ := words_bd p
  unfold pileref1_CodedOf.f
  simp only [split_ev p (show p.length ≤ 1000000 by omega), Option.bind_some]
  have hl : ((wordsOf p).map mk).length = (wordsOf p).length := by simp
  obtain ⟨v, hv, he⟩ := loop (wordsOf p) (fun k i (o : List ByteArray) => pileref1_CodedOf.l0 k ((wordsOf p).map mk) (((wordsOf p).map mk).length : Int) i o)
    (fun i o => o = (((wordsOf p).take i).map cw).map mk) (fun v => v = mk (codedL p))
    (fun i o hi ho => .inl ⟨_, rfl, fun v hv => Ev.succ (by
      have hr : rdE eS ((wordsOf p).map mk) (i : Int) = mk (wordsOf p)[i] := by rw [rdE_get eS _ i (by omega)]; simp
      have hwi := b2 _ (List.getElem_mem hi)
      have hol : o.length ≤ 1000 := by rw [ho]; simp; omega
      have ht : (((wordsOf p).take (i + 1)).map cw).map mk = o ++ [mk (cw (wordsOf p)[i])] := by rw [List.take_succ_eq_append_getElem hi, ho]; simp only [List.map_append, List.map_cons, List.map_nil]
      rw [ht] at hv
      simp only [pileref1_CodedOf.l0]
      refine Ev.pos (by omega) (Ev.pos (by omega) (Ev.pos (by omega) ?_))
      exact codedIn p h1 i _ o hr (by omega) (h3 _ (List.getElem_mem hi)).2 (by omega) (by omega) v hv (wordsOf p)[i].length 0 (by omega))⟩)
    (fun o ho => ⟨_, rfl, Ev.step (f := fun _ => some _) (fun k => by
      rw [List.take_length] at ho
      simp only [pileref1_CodedOf.l0, hl]
      rw [if_neg (by omega), ho, coded_f p h1]
      rfl) (Ev.now _)⟩) 0 [] (by omega) (by simp)
  rw [hv] at he
  exact he
/-! units -/
theorem Units_ev (p : List UInt8) (h : saidF p = 0) : ∃ n : Int, Ev (fun k => key_Units.f k (mk p)) (n, 0) ∧ Ev (fun k => pileref1_UnitsOf.f k (mk p)) n := by
  obtain ⟨h1, _, _⟩ := said_all h
  have e1 := CheckSaid_ev p (by omega)
  rw [h] at e1
  have el := lengths_ev p h1 1 1 (by omega) (by omega)
  have ek := KeyedOf_full p h 1 1 (by omega) (by omega)
  have hF := elT_len 1 1 (wordsOf p)
  rw [words_sum p] at hF
  generalize elT 1 1 (wordsOf p) = D at el ek hF
  have key : ∀ (d : Nat) (i : Nat) (x : Int), i + d = D.length → ∃ n, Ev (fun k => key_Units.l0 k x D (D.length : Int) (i : Int)) (n, 0) ∧ Ev (fun k => pileref1_UnitsOf.l0 k x D (D.length : Int) (i : Int)) n := by
    intro d
    induction d with
    | zero =>
      intro i x hd
      refine ⟨x, Ev.step (f := fun _ => some _) (fun k => ?_) (Ev.now _), Ev.step (f := fun _ => some _) (fun k => ?_) (Ev.now _)⟩
      · simp only [key_Units.l0]; rw [if_neg (by omega)]
      · simp only [pileref1_UnitsOf.l0]; rw [if_neg (by omega)]
    | succ d ih =>
      intro i x hd
      obtain ⟨n, a1, a2⟩ := ih (i + 1) (wrap64 (x + rd D (i : Int))) (by omega)
      refine ⟨n, Ev.succ ?_, Ev.succ ?_⟩
      · simp only [key_Units.l0, wrap_succ (show i ≤ 1000000000000000 by omega)]
        exact Ev.pos (by omega) (Ev.pos (by omega) (Ev.pos (by omega) a1))
      · simp only [pileref1_UnitsOf.l0, wrap_succ (show i ≤ 1000000000000000 by omega)]
        exact Ev.pos (by omega) (Ev.pos (by omega) (Ev.pos (by omega) a2))
  obtain ⟨n, a1, a2⟩ := key D.length 0 0 (by omega)
  exact ⟨n, Ev.bind e1 (Ev.pos rfl (Ev.bind el a1)), Ev.bind ek a2⟩
end Go.EV.Pure
namespace Go.EV.Pure
open Go Go.EV Go.RowKit
set_option linter.unusedSimpArgs false
set_option maxRecDepth 100000
theorem keyed_ev : Ev (fun k => pilelaw1_keyed.f k) true := Ev.from 300 fun k => (by kernel_rfl : pilelaw1_keyed.f (k + 300) = some true)
theorem inR_eq (a lo hi : Int) : pileref1_in.f a lo hi = some (decide (lo ≤ a) && decide (a ≤ hi)) := by
  unfold pileref1_in.f
  by_cases c : lo ≤ a
  · rw [if_pos c]; simp [c]
  · rw [if_neg c]; simp [c]
end Go.EV.Pure
namespace Go.EV.Pure
open Go Go.EV Go.RowKit
set_option linter.unusedSimpArgs false
set_option maxRecDepth 100000
/-! Codes read. -/
def signF (a : ByteArray) : ByteArray := match sgL.find? (fun x => decide (x.2 = a)) with
  | some x => x.1
  | none => mk [42]
theorem signF_size (a : ByteArray) : (signF a).size = 1 := by
  unfold signF
  split
  · rename_i x hx
    have hm := List.mem_of_find?_eq_some hx
    have : ∀ x ∈ sgL, x.1.size = 1 := by decide +kernel
    exact this x hm
  · rfl
def signL (c : List UInt8) : List UInt8 := (signF (mk c)).data.toList
theorem signL_mk (c : List UInt8) : signF (mk c) = mk (signL c) := mk_of _
theorem signL_len (c : List UInt8) : (signL c).length = 1 := by
  have := signF_size (mk c)
  unfold signL
  rw [Array.length_toList]
  exact this
theorem find_hit {α : Type} (p : α → Bool) (L : List α) (i : Nat) (hi : i < L.length) (h : (L.take i).find? p = none) (hp : p L[i] = true) : L.find? p = some L[i] := by
  have e : L.find? p = (L.take i ++ L.drop i).find? p := by rw [List.take_append_drop]
  rw [e, List.find?_append, h, Option.none_or, List.drop_eq_getElem_cons hi, List.find?_cons, hp]
theorem refSign (a : ByteArray) : Ev (fun k => pileref1_signOf.f k a) (signF a) := by
  obtain ⟨v, hv, he⟩ := loop sgL (fun k i (_ : Unit) => pileref1_signOf.l0 k a sgL (sgL.length : Int) i)
    (fun i _ => (sgL.take i).find? (fun x => decide (x.2 = a)) = none) (fun v => v = signF a)
    (fun i s hi hI => by
      have hr : rdE e_SS sgL (i : Int) = sgL[i] := rdE_get e_SS sgL i hi
      have hl : sgL.length = 40 := rfl
      by_cases c : sgL[i].2 = a
      · refine .inr ⟨sgL[i].1, ?_, Ev.succ ?_⟩
        · have hf := find_hit (fun x : ByteArray × ByteArray => decide (x.2 = a)) sgL i hi hI (decide_eq_true c)
          unfold signF
          rw [hf]
        · simp only [pileref1_signOf.l0, hr]
          exact Ev.pos (by omega) (Ev.pos (by omega) (Ev.pos (by omega) (Ev.pos c (Ev.now _))))
      · refine .inl ⟨(), ?_, fun v hv => Ev.succ ?_⟩
        · rw [List.take_succ_eq_append_getElem hi, List.find?_append, hI, Option.none_or, List.find?_cons, decide_eq_false c]
          rfl
        · simp only [pileref1_signOf.l0, hr, wrap_succ (show i ≤ 1000000000000000 by omega)]
          exact Ev.pos (by omega) (Ev.pos (by omega) (Ev.pos (by omega) (Ev.neg c hv))))
    (fun s hI => ⟨mk [42], by
      rw [List.take_length] at hI
      unfold signF
      rw [hI], Ev.step (f := fun _ => some _) (fun k => by simp only [pileref1_signOf.l0]; rw [if_neg (by omega)]; rfl) (Ev.now _)⟩) 0 () (by simp) (by simp)
  rw [hv] at he
  exact Ev.bind CodesOf_sg he
def byC : List (ByteArray × ByteArray) := sgL.map fun x => (x.2, x.1)
theorem byCodes_ev : Ev (fun k => key_byCodes.f k) byC := Ev.from 100 fun k => (by kernel_rfl : key_byCodes.f (k + 100) = some byC)
theorem mget_find (a d : ByteArray) : ∀ L : List (ByteArray × ByteArray), (a ∈ (L.map fun x => (x.2, x.1)).map Prod.fst ↔ (L.find? (fun x => decide (x.2 = a))).isSome = true) ∧
    ∀ x, L.find? (fun x => decide (x.2 = a)) = some x → mget d (L.map fun x => (x.2, x.1)) a = x.1
  | [] => by simp
  | y :: r => by
    obtain ⟨i1, i2⟩ := mget_find a d r
    by_cases c : y.2 = a
    · have hf : (y :: r).find? (fun x => decide (x.2 = a)) = some y := by rw [List.find?_cons, decide_eq_true c]
      rw [hf]
      refine ⟨by simp [c], fun x hx => ?_⟩
      cases hx
      simp [mget, c]
    · have hf : (y :: r).find? (fun x => decide (x.2 = a)) = r.find? (fun x => decide (x.2 = a)) := by rw [List.find?_cons, decide_eq_false c]
      rw [hf, ← i1]
      refine ⟨?_, fun x hx => ?_⟩
      · simp only [List.map_cons, List.mem_cons]
        constructor
        · rintro (h | h)
          · exact absurd h.symm c
          · exact h
        · exact fun h => .inr h
      · rw [← i2 x hx]
        unfold mget
        have hb : (y.2 == a) = false := by simpa using c
        simp only [List.map_cons, List.idxOf_cons, hb, cond_false, List.getD_cons_succ]
theorem keySign (a : ByteArray) : key_signOf.f byC a = some (signF a) := by
  obtain ⟨h1, h2⟩ := mget_find a ByteArray.empty sgL
  unfold key_signOf.f signF
  by_cases c : a ∈ List.map Prod.fst byC
  · rw [if_pos c]
    have hs := h1.1 c
    cases hf : sgL.find? (fun x => decide (x.2 = a)) with
    | none => rw [hf] at hs; cases hs
    | some x => show some _ = some x.1; rw [← h2 x hf]; rfl
  · rw [if_neg c]
    cases hf : sgL.find? (fun x => decide (x.2 = a)) with
    | none => rfl
    | some x => exact absurd (h1.2 (by rw [hf]; rfl)) c
def isEl (b : UInt8) : Bool := ([46, 45] : List UInt8).contains b
def goodC (c : List UInt8) : Bool := !c.isEmpty && (c.all isEl && decide (c.length ≤ 10))
theorem trimEl (c : List UInt8) (hc : c.length ≤ 1000000) : strings_Trim.f (mk c) (⟨#[46, 45]⟩ : ByteArray) = some (mk (Lib.trimS c [46, 45])) := by
  have hts : asciiT (⟨#[46, 45]⟩ : ByteArray) = true := by decide +kernel
  have htz : (⟨#[46, 45]⟩ : ByteArray).size < 4294967281 := by decide +kernel
  unfold strings_Trim.f
  rw [if_pos ⟨by rw [mk_size]; omega, htz, hts⟩, mk_data]
  rfl
theorem trimEl_nil (c : List UInt8) : mk (Lib.trimS c [46, 45]) = (⟨#[]⟩ : ByteArray) ↔ c.all isEl = true := by
  have : (⟨#[]⟩ : ByteArray) = mk [] := rfl
  rw [this, mk_inj, trimS_nil, List.all_eq_true]
  rfl
theorem isElements_eq (c : List UInt8) (hc : c.length ≤ 1000000) : key_isElements.f (mk c) = some (!c.isEmpty && c.all isEl) := by
  unfold key_isElements.f
  by_cases h : c.isEmpty = true
  · rw [if_pos ((mk_nil c).2 h), h]; rfl
  · rw [if_neg (fun e => h ((mk_nil c).1 e)), trimEl c hc, Option.bind_some]
    have hf : c.isEmpty = false := by simpa using h
    rw [hf]
    congr 1
    rw [Bool.not_false, Bool.true_and, Bool.eq_iff_iff, decide_eq_true_eq, trimEl_nil]
def catL (Y : List (List UInt8)) : List UInt8 := Y.flatMap signL
theorem catL_cons (c : List UInt8) (Y : List (List UInt8)) : catL (c :: Y) = signL c ++ catL Y := rfl
theorem catL_len (Y : List (List UInt8)) : (catL Y).length = Y.length := by
  unfold catL
  induction Y with
  | nil => rfl
  | cons a r ih => rw [List.flatMap_cons, List.length_append, ih, signL_len, List.length_cons]; omega
def goodX (x : List UInt8) : Bool := (wordsOf x).all goodC
def plainT (X : List (List UInt8)) : ByteArray × Int := if X.all goodX = true then (mk (Lib.join (X.map fun x => catL (wordsOf x)) [32]), 0) else (eB, 3)
theorem keyPl (XB : List ByteArray) (n : Int) (i : Nat) (hi : i ≤ 100000) (o : List ByteArray) (ho : o.length ≤ 100000) (Y : List (List UInt8)) (hY : Y.length ≤ 100000) (hY2 : ∀ c ∈ Y, c.length ≤ 1000000) (v : ByteArray × Int) (d : Nat) :
    ∀ (j : Nat) (A : List UInt8), j + d = Y.length → A.length ≤ j → ((Y.drop j).all goodC = true → Ev (fun k => key_Plain.l0 k XB n ((i + 1 : Nat) : Int) (o ++ [mk (A ++ catL (Y.drop j))]) byC) v) → ((Y.drop j).all goodC = false → v = (eB, 3)) →
      Ev (fun k => key_Plain.l1 k XB n (i : Int) o byC (mk A) (Y.map mk) ((Y.map mk).length : Int) (j : Int)) v := by
  have hl : (Y.map mk).length = Y.length := by simp
  induction d with
  | zero =>
    intro j A hj hA h1 _
    have hd : Y.drop j = [] := List.drop_eq_nil_of_le (by omega)
    rw [hd] at h1
    have h1 := h1 rfl
    simp only [catL, List.flatMap_nil, List.append_nil] at h1
    refine Ev.succ ?_
    simp only [key_Plain.l1, hl, wrap_succ (show i ≤ 1000000000000000 by omega)]
    exact Ev.neg (by omega) (Ev.pos (by omega) h1)
  | succ d ih =>
    intro j A hj hA h1 h2
    have hjl : j < Y.length := by omega
    have hr : rdE eS (Y.map mk) (j : Int) = mk Y[j] := by rw [rdE_get eS _ j (by omega)]; simp
    have hyl := hY2 _ (List.getElem_mem hjl)
    have hd : Y.drop j = Y[j] :: Y.drop (j + 1) := List.drop_eq_getElem_cons hjl
    have hs := mk_size Y[j]
    have hsz : (mk A).size + (mk (signL Y[j])).size ≤ 9223372036854775807 := by rw [mk_size, mk_size, signL_len]; omega
    rw [hd] at h1 h2
    refine Ev.succ ?_
    simp only [key_Plain.l1, hl, hr, isElements_eq _ hyl, Option.bind_some, hs, keySign, signL_mk, mk_append, wrap_succ (show j ≤ 1000000000000000 by omega)]
    refine Ev.pos (by omega) (Ev.pos (by omega) (Ev.pos (by omega) ?_))
    by_cases c : goodC Y[j] = true
    · have c2 := c
      unfold goodC at c2
      simp only [Bool.and_eq_true, decide_eq_true_eq] at c2
      obtain ⟨c3, c4, c5⟩ := c2
      have hh := ih (j + 1) (A ++ signL Y[j]) (by omega) (by rw [List.length_append, signL_len]; omega)
        (fun h => by
          have := h1 (by rw [List.all_cons, c, h]; rfl)
          rw [catL_cons, ← List.append_assoc] at this
          exact this)
        (fun h => h2 (by rw [List.all_cons, h, Bool.and_false]))
      simp only [hl] at hh
      exact Ev.pos (by rw [c3, c4]; rfl) (Ev.neg (by omega) (Ev.pos hsz hh))
    · have cf : goodC Y[j] = false := by simpa using c
      rw [h2 (by rw [List.all_cons, cf, Bool.false_and])]
      by_cases c6 : (!Y[j].isEmpty && Y[j].all isEl) = true
      · refine Ev.pos c6 (Ev.pos ?_ (Ev.now _))
        unfold goodC at cf
        rw [← Bool.and_assoc, c6, Bool.true_and, decide_eq_false_iff_not] at cf
        omega
      · exact Ev.neg c6 (Ev.now _)
theorem keyPlain_ev (X : List (List UInt8)) (hX : X.length ≤ 10000) (hX2 : ∀ x ∈ X, x.length ≤ 10000) : Ev (fun k => key_Plain.l0 k (X.map mk) ((X.map mk).length : Int) 0 [] byC) (plainT X) := by
  have hl : (X.map mk).length = X.length := by simp
  obtain ⟨v, hv, he⟩ := loop X (fun k i (o : List ByteArray) => key_Plain.l0 k (X.map mk) ((X.map mk).length : Int) i o byC)
    (fun i o => (X.take i).all goodX = true ∧ o = ((X.take i).map fun x => catL (wordsOf x)).map mk) (fun v => v = plainT X)
    (fun i o hi ⟨hI, ho⟩ => by
      have hr : rdE eS (X.map mk) (i : Int) = mk X[i] := by rw [rdE_get eS _ i (by omega)]; simp
      have hxi := hX2 _ (List.getElem_mem hi)
      obtain ⟨b1, b2⟩ := words_bd X[i]
      have hol : o.length ≤ 10000 := by rw [ho]; simp; omega
      have ht : ((X.take (i + 1)).map fun x => catL (wordsOf x)).map mk = o ++ [mk (catL (wordsOf X[i]))] := by rw [List.take_succ_eq_append_getElem hi, ho]; simp only [List.map_append, List.map_cons, List.map_nil]
      have step : ∀ v, (goodX X[i] = true → Ev (fun k => key_Plain.l0 k (X.map mk) ((X.map mk).length : Int) ((i + 1 : Nat) : Int) (o ++ [mk (catL (wordsOf X[i]))]) byC) v) → (goodX X[i] = false → v = (eB, 3)) → Ev (fun k => key_Plain.l0 k (X.map mk) ((X.map mk).length : Int) (i : Int) o byC) v := by
        intro v h1 h2
        have := keyPl (X.map mk) ((X.map mk).length : Int) i (by omega) o (by omega) (wordsOf X[i]) (by omega) (fun c hc => by have := b2 c hc; omega) v (wordsOf X[i]).length 0 [] (by omega) (by simp) h1 h2
        refine Ev.succ ?_
        simp only [key_Plain.l0, hr, split_ev X[i] (show X[i].length ≤ 1000000 by omega), Option.bind_some]
        exact Ev.pos (by omega) (Ev.pos (by omega) (Ev.pos (by omega) this))
      by_cases c : goodX X[i] = true
      · refine .inl ⟨_, ⟨?_, rfl⟩, fun v hv => ?_⟩
        · rw [List.take_succ_eq_append_getElem hi, List.all_append, hI]; simpa using c
        · rw [ht] at hv
          exact step v (fun _ => hv) (fun h => by rw [c] at h; cases h)
      · have cf : goodX X[i] = false := by simpa using c
        refine .inr ⟨(eB, 3), ?_, step _ (fun h => by rw [cf] at h; cases h) (fun _ => rfl)⟩
        unfold plainT
        rw [if_neg]
        intro h
        rw [List.all_eq_true] at h
        exact c (h _ (List.getElem_mem hi)))
    (fun o ⟨hI, ho⟩ => ⟨_, rfl, Ev.step (f := fun _ => some _) (fun k => by
      rw [List.take_length] at hI ho
      have hj := join_f (X.map fun x => catL (wordsOf x)) [32] 10001 (by simp; omega) (by simp) (by omega) (fun w hw => by
        obtain ⟨x, hx, rfl⟩ := List.mem_map.1 hw
        have := (words_bd x).1
        have := hX2 x hx
        rw [catL_len]; omega)
      have hj : strings_Join.f o (⟨#[32]⟩ : ByteArray) = some (mk (Lib.join (X.map fun x => catL (wordsOf x)) [32])) := by rw [ho]; exact hj
      simp only [key_Plain.l0, hl]
      rw [if_neg (by omega), hj]
      unfold plainT
      rw [if_pos hI]
      rfl) (Ev.now _)⟩) 0 [] (by omega) (by simp)
  rw [hv] at he
  exact he
theorem refPl (XB : List ByteArray) (n : Int) (i : Nat) (hi : i ≤ 100000) (Y : List (List UInt8)) (hY : Y.length ≤ 100000) (hY2 : ∀ c ∈ Y, c.length ≤ 1000000) (v : ByteArray × Int) (d : Nat) :
    ∀ (j : Nat) (A : List UInt8), j + d = Y.length → A.length ≤ 1000000000 + j → ((Y.drop j).all goodC = true → Ev (fun k => pileref1_PlainOf.l0 k (mk (A ++ catL (Y.drop j))) XB n ((i + 1 : Nat) : Int)) v) → ((Y.drop j).all goodC = false → v = (eB, 3)) →
      Ev (fun k => pileref1_PlainOf.l1 k XB n (i : Int) (mk A) (Y.map mk) ((Y.map mk).length : Int) (j : Int)) v := by
  have hl : (Y.map mk).length = Y.length := by simp
  induction d with
  | zero =>
    intro j A hj hA h1 _
    have hd : Y.drop j = [] := List.drop_eq_nil_of_le (by omega)
    rw [hd] at h1
    have h1 := h1 rfl
    simp only [catL, List.flatMap_nil, List.append_nil] at h1
    refine Ev.succ ?_
    simp only [pileref1_PlainOf.l1, hl, wrap_succ (show i ≤ 1000000000000000 by omega)]
    exact Ev.neg (by omega) h1
  | succ d ih =>
    intro j A hj hA h1 h2
    have hjl : j < Y.length := by omega
    have hr : rdE eS (Y.map mk) (j : Int) = mk Y[j] := by rw [rdE_get eS _ j (by omega)]; simp
    have hyl := hY2 _ (List.getElem_mem hjl)
    have hd : Y.drop j = Y[j] :: Y.drop (j + 1) := List.drop_eq_getElem_cons hjl
    have hs := mk_size Y[j]
    have hsz : (mk A).size + (mk (signL Y[j])).size ≤ 9223372036854775807 := by rw [mk_size, mk_size, signL_len]; omega
    rw [hd] at h1 h2
    refine Ev.succ ?_
    simp only [pileref1_PlainOf.l1, hl, hr, inR_eq, trimEl _ hyl, Option.bind_some, hs, wrap_succ (show j ≤ 1000000000000000 by omega)]
    refine Ev.pos (by omega) (Ev.pos (by omega) (Ev.pos (by omega) ?_))
    have hem : Y[j].isEmpty = decide (Y[j].length = 0) := by rw [Bool.eq_iff_iff, decide_eq_true_eq]; simp
    by_cases c : goodC Y[j] = true
    · have c2 := c
      unfold goodC at c2
      simp only [Bool.and_eq_true, decide_eq_true_eq, hem, Bool.not_eq_true', decide_eq_false_iff_not] at c2
      obtain ⟨c3, c4, c5⟩ := c2
      have hh := ih (j + 1) (A ++ signL Y[j]) (by omega) (by rw [List.length_append, signL_len]; omega)
        (fun h => by
          have := h1 (by rw [List.all_cons, c, h]; rfl)
          rw [catL_cons, ← List.append_assoc] at this
          exact this)
        (fun h => h2 (by rw [List.all_cons, h, Bool.and_false]))
      simp only [hl] at hh
      have hrs := refSign (mk Y[j])
      rw [signL_mk] at hrs
      refine Ev.pos (by simp; omega) (Ev.pos ((trimEl_nil _).2 c4) (Ev.bind hrs ?_))
      simp only [mk_append]
      exact Ev.pos hsz hh
    · have cf : goodC Y[j] = false := by simpa using c
      rw [h2 (by rw [List.all_cons, cf, Bool.false_and])]
      refine Ev.ite (fun d1 => Ev.ite (fun d2 => ?_) (fun _ => Ev.now _)) (fun _ => Ev.now _)
      exfalso
      apply c
      unfold goodC
      simp only [Bool.and_eq_true, decide_eq_true_eq] at d1
      rw [(trimEl_nil _).1 d2, hem]
      simp only [Bool.and_eq_true, Bool.not_eq_true', decide_eq_false_iff_not, decide_eq_true_eq]
      exact ⟨by omega, trivial, by omega⟩
theorem refPlain_ev (X : List (List UInt8)) (hX : X.length ≤ 10000) (hX2 : ∀ x ∈ X, x.length ≤ 10000) : Ev (fun k => pileref1_PlainOf.l0 k (⟨#[]⟩ : ByteArray) (X.map mk) ((X.map mk).length : Int) 0) (plainT X) := by
  have hl : (X.map mk).length = X.length := by simp
  have hjl : ∀ i, (Lib.join ((X.take i).map fun x => catL (wordsOf x)) [32]).length ≤ 200000000 := fun i => by
    have := join_len [32] 1 (by simp) ((X.take i).map fun x => catL (wordsOf x)) 10001 (fun w hw => by
      obtain ⟨x, hx, rfl⟩ := List.mem_map.1 hw
      have := (words_bd x).1
      have := hX2 x (List.mem_of_mem_take hx)
      rw [catL_len]; omega)
    have hm := Nat.mul_le_mul_left (10001 + 1) (show ((X.take i).map fun x => catL (wordsOf x)).length ≤ 10000 by simp; omega)
    omega
  obtain ⟨v, hv, he⟩ := loop X (fun k i (A : List UInt8) => pileref1_PlainOf.l0 k (mk A) (X.map mk) ((X.map mk).length : Int) i)
    (fun i A => (X.take i).all goodX = true ∧ A = Lib.join ((X.take i).map fun x => catL (wordsOf x)) [32]) (fun v => v = plainT X)
    (fun i A hi ⟨hI, hA⟩ => by
      have hr : rdE eS (X.map mk) (i : Int) = mk X[i] := by rw [rdE_get eS _ i (by omega)]; simp
      have hxi := hX2 _ (List.getElem_mem hi)
      have hAl := hjl i
      rw [← hA] at hAl
      obtain ⟨b1, b2⟩ := words_bd X[i]
      have ht : Lib.join ((X.take (i + 1)).map fun x => catL (wordsOf x)) [32] = (if i = 0 then [] else A ++ [32]) ++ catL (wordsOf X[i]) := by
        rw [List.take_succ_eq_append_getElem hi, List.map_append, List.map_cons, List.map_nil, join_snoc, hA]
        by_cases c : i = 0
        · subst c; simp
        · rw [if_neg c, if_neg]
          intro h
          have hz : ((X.take i).map fun x => catL (wordsOf x)).length = i := by simp; omega
          rw [h] at hz
          exact c hz.symm
      have step : ∀ v, (goodX X[i] = true → Ev (fun k => pileref1_PlainOf.l0 k (mk ((if i = 0 then [] else A ++ [32]) ++ catL (wordsOf X[i]))) (X.map mk) ((X.map mk).length : Int) ((i + 1 : Nat) : Int)) v) → (goodX X[i] = false → v = (eB, 3)) → Ev (fun k => pileref1_PlainOf.l0 k (mk A) (X.map mk) ((X.map mk).length : Int) (i : Int)) v := by
        intro v h1 h2
        have j9 : Ev (fun k => pileref1_PlainOf.j9 k (X.map mk) ((X.map mk).length : Int) (i : Int) (mk (if i = 0 then [] else A ++ [32]))) v := by
          have := refPl (X.map mk) ((X.map mk).length : Int) i (by omega) (wordsOf X[i]) (by omega) (fun c hc => by have := b2 c hc; omega) v (wordsOf X[i]).length 0 (if i = 0 then [] else A ++ [32]) (by omega) (by split <;> simp <;> omega) h1 h2
          refine Ev.succ ?_
          simp only [pileref1_PlainOf.j9, hr, split_ev X[i] (show X[i].length ≤ 1000000 by omega), Option.bind_some]
          exact this
        refine Ev.succ ?_
        simp only [pileref1_PlainOf.l0]
        refine Ev.pos (by omega) (Ev.pos (by omega) (Ev.pos (by omega) ?_))
        by_cases c : i = 0
        · have hA0 : A = [] := by rw [hA, c]; rfl
          rw [if_pos c] at j9
          rw [hA0]
          exact Ev.neg (by omega) j9
        · rw [if_neg c] at j9
          have hap : mk A ++ (⟨#[32]⟩ : ByteArray) = mk (A ++ [32]) := mk_append A [32]
          have hsz : (mk A).size + (⟨#[32]⟩ : ByteArray).size ≤ 9223372036854775807 := by
            rw [mk_size, show (⟨#[32]⟩ : ByteArray).size = 1 from rfl]; omega
          rw [hap]
          exact Ev.pos (by omega) (Ev.pos hsz j9)
      by_cases c : goodX X[i] = true
      · refine .inl ⟨_, ⟨?_, rfl⟩, fun v hv => ?_⟩
        · rw [List.take_succ_eq_append_getElem hi, List.all_append, hI]; simpa using c
        · rw [ht] at hv
          exact step v (fun _ => hv) (fun h => by rw [c] at h; cases h)
      · have cf : goodX X[i] = false := by simpa using c
        refine .inr ⟨(eB, 3), ?_, step _ (fun h => by rw [cf] at h; cases h) (fun _ => rfl)⟩
        unfold plainT
        rw [if_neg]
        intro h
        rw [List.all_eq_true] at h
        exact c (h _ (List.getElem_mem hi)))
    (fun A ⟨hI, hA⟩ => ⟨_, rfl, Ev.step (f := fun _ => some _) (fun k => by
      rw [List.take_length] at hI hA
      simp only [pileref1_PlainOf.l0, hl]
      rw [if_neg (by omega), hA]
      unfold plainT
      rw [if_pos hI]) (Ev.now _)⟩) 0 [] (by omega) (by simp [Lib.join_nil])
  rw [hv] at he
  exact he
theorem splitB_sizes (sep : ByteArray) : ∀ (k : Nat) (s : ByteArray), ∀ x ∈ Lib.splitB sep 0 k s, x.size ≤ s.size
  | 0, s => fun x hx => by
    have : x = s := by simpa [Lib.splitB] using hx
    rw [this]; exact Nat.le_refl _
  | k + 1, s => fun x hx => by
    unfold Lib.splitB at hx
    split at hx
    · have : x = s := by simpa using hx
      rw [this]; exact Nat.le_refl _
    · rcases List.mem_cons.1 hx with rfl | hx
      · exact ext_le _ _ _
      · exact Nat.le_trans (splitB_sizes sep k _ x hx) (ext_le _ _ _)
theorem Plain_both (c : List UInt8) (hc : c.length ≤ 1000000000) : ∃ v, Ev (fun k => key_Plain.f k (mk c)) v ∧ Ev (fun k => pileref1_PlainOf.f k (mk c)) v := by
  have hs := mk_size c
  by_cases h : c.length > 5000
  · refine ⟨(eB, 2), ?_, ?_⟩
    · unfold key_Plain.f; exact Ev.pos (by rw [hs]; omega) (Ev.now _)
    · unfold pileref1_PlainOf.f; exact Ev.pos (by rw [hs]; omega) (Ev.now _)
  · have hsp : strings_Split.f (mk c) (⟨#[32, 47, 32]⟩ : ByteArray) = some (Lib.splitB (⟨#[32, 47, 32]⟩ : ByteArray) 0 (Lib.countB (mk c) (⟨#[32, 47, 32]⟩ : ByteArray)) (mk c)) := by
      unfold strings_Split.f
      rw [if_pos ⟨by rw [hs]; omega, by decide⟩]
    have hsz := splitB_sizes (⟨#[32, 47, 32]⟩ : ByteArray) (Lib.countB (mk c) (⟨#[32, 47, 32]⟩ : ByteArray)) (mk c)
    have hln := Lib.splitB_length_le (⟨#[32, 47, 32]⟩ : ByteArray) 0 (Lib.countB (mk c) (⟨#[32, 47, 32]⟩ : ByteArray)) (mk c)
    have hcn := Lib.countB_le (⟨#[32, 47, 32]⟩ : ByteArray) (by decide) _ (mk c) (Nat.le_refl _)
    rw [hs] at hcn
    generalize Lib.splitB (⟨#[32, 47, 32]⟩ : ByteArray) 0 (Lib.countB (mk c) (⟨#[32, 47, 32]⟩ : ByteArray)) (mk c) = XB at hsp hsz hln
    have hX : XB = (XB.map (·.data.toList)).map mk := by
      rw [List.map_map]
      conv => lhs; rw [← List.map_id XB]
      exact List.map_congr_left fun x _ => mk_of x
    have hX2 : ∀ x ∈ XB.map (·.data.toList), x.length ≤ 10000 := fun x hx => by
      obtain ⟨y, hy, rfl⟩ := List.mem_map.1 hx
      have := hsz y hy
      rw [hs] at this
      rw [Array.length_toList]
      show y.size ≤ 10000
      omega
    have hXl : (XB.map (·.data.toList)).length ≤ 10000 := by rw [List.length_map]; omega
    generalize XB.map (·.data.toList) = X at hX hX2 hXl
    subst hX
    refine ⟨plainT X, ?_, ?_⟩
    · unfold key_Plain.f
      refine Ev.neg (by rw [hs]; omega) (Ev.bind byCodes_ev ?_)
      simp only [hsp, Option.bind_some]
      exact keyPlain_ev X hXl hX2
    · unfold pileref1_PlainOf.f
      refine Ev.neg (by rw [hs]; omega) ?_
      simp only [hsp, Option.bind_some]
      exact refPlain_ev X hXl hX2
end Go.EV.Pure
namespace Go.EV.Pure
open Go Go.EV Go.RowKit
set_option linter.unusedSimpArgs false
set_option maxRecDepth 100000
theorem CodeString_spec (l : List Int) (s : Int) (h0 : 0 ≤ s) (h1 : s ≤ 4611686018427370000) (hl : l.length ≤ 140737488351232) :
    ∃ t s', Ev (fun k => pilemake_Stream_CodeString.f k l s) (mk t, l, s') ∧ t.length ≤ 100000000 ∧ s ≤ s' ∧ s' ≤ s + 200 := by
  let Q := fun (v : ByteArray × List Int × Int) => ∃ t s', v = (mk t, l, s') ∧ t.length ≤ 100000000 ∧ s ≤ s' ∧ s' ≤ s + 200
  obtain ⟨t, s1, e1, t1, t2, q1, q2⟩ := Saying_spec l s h0 (by omega) hl
  have e2 := SaidFault_ev t (by omega)
  have hw : GS 1000 (⟨#[46, 45, 32, 47, 46, 45]⟩ : ByteArray) := ⟨by decide +kernel, by decide +kernel⟩
  have hw0 : ¬ (⟨#[46, 45, 32, 47, 46, 45]⟩ : ByteArray) = (⟨#[]⟩ : ByteArray) := by decide +kernel
  have run : ∀ (m : Int), 0 ≤ m → m ≤ 2 → ∀ (d : Nat) (i : Int) (x : ByteArray) (s2 : Int) (n : Nat), i + d = m → 0 ≤ i → GS n x → 1000 ≤ n → ((i = 0 → n ≤ 2000000) ∧ (i = 1 → n ≤ 4000001) ∧ (i = 2 → n ≤ 8000003)) → s1 + 1 ≤ s2 → s2 ≤ s1 + 1 + 3 * i → ∃ v, Q v ∧ Ev (fun k => pilemake_Stream_CodeString.l0 k x m i l s2) v := by
    intro m m0 m2 d
    induction d with
    | zero =>
      intro i x s2 n hd hi hx hn1 hn2 p1 p2
      refine ⟨(x, l, s2), ⟨x.data.toList, s2, by rw [← mk_of], by rw [Array.length_toList]; have := hx.2; show x.size ≤ _; omega, by omega, by omega⟩, Ev.step (f := fun _ => some _) (fun k => ?_) (Ev.now _)⟩
      simp only [pilemake_Stream_CodeString.l0]
      rw [if_neg (by omega)]
    | succ d ih =>
      intro i x s2 n hd hi hx hn1 hn2 p1 p2
      obtain ⟨y, s3, ey, hy, r1, r2⟩ := Changed_GS n l s2 x _ (by omega) (by omega) hl hx (by omega) hw hw0
      have hy : GS (n + 1 + n) y := by
        rcases hy with hy | rfl
        · exact hy
        · exact hw.mono (by omega)
      obtain ⟨v, qv, ev⟩ := ih (i + 1) y s3 (n + 1 + n) (by omega) (by omega) hy (by omega) (by omega) (by omega) (by omega)
      refine ⟨v, qv, Ev.succ ?_⟩
      simp only [pilemake_Stream_CodeString.l0, wrap_id (e := i + 1) (by omega) (by omega)]
      exact Ev.pos (by omega) (Ev.bind ey ev)
  have j5 : ∀ x, GS 2000000 x → ∃ v, Q v ∧ Ev (fun k => pilemake_Stream_CodeString.j5 k x l s1) v := by
    intro x hx
    obtain ⟨m, em, mm⟩ := Pick_spec l s1 [0, 1, 1, 2] (by omega) (by omega) hl (by simp) (by simp)
    simp only [List.mem_cons, List.not_mem_nil, or_false] at mm
    obtain ⟨v, qv, ev⟩ := run m (by omega) (by omega) m.toNat 0 x (s1 + 1) 2000000 (by omega) (by omega) hx (by omega) (by omega) (by omega) (by omega)
    refine ⟨v, qv, Ev.succ ?_⟩
    simp only [pilemake_Stream_CodeString.j5]
    exact Ev.bind em ev
  have fin : ∃ v, Q v ∧ Ev (fun k => pilemake_Stream_CodeString.f k l s) v := by
    unfold pilemake_Stream_CodeString.f
    by_cases c : saidF t = 0
    · obtain ⟨v, qv, ev⟩ := j5 _ (coded_GS t (said_all c).1)
      exact ⟨v, qv, Ev.bind e1 (Ev.bind e2 (Ev.pos c (Ev.bind (CodedOf_full t c) ev)))⟩
    · obtain ⟨v, qv, ev⟩ := j5 (⟨#[46, 45]⟩ : ByteArray) ⟨by decide +kernel, by decide +kernel⟩
      exact ⟨v, qv, Ev.bind e1 (Ev.bind e2 (Ev.neg c ev))⟩
  obtain ⟨v, ⟨t', s', rfl, r1, r2, r3⟩, ev⟩ := fin
  exact ⟨t', s', ev, r1, r2, r3⟩
theorem speedTail (u : Int) (m : u = 1 ∨ u = 60 ∨ u = 2000 ∨ u = 0 ∨ u = 2001) :
    Ev (fun k => ((key_Speed.f k u).bind fun r27 => ((pileref1_SpanFault.f u 1 2000).bind fun r28 => (if r28 = 0 then (if r27.2.2 = 0 then ((pileref1_SpeedOf.f k u).bind fun r32 => (if (decide (r27.1 = r32.1) && (decide (r27.2.1 = r32.2) && true)) = true then ((pilelaw1_keyed.f k).bind fun r33 => Option.some r33) else Option.some false)) else Option.some false) else (if r27.2.2 = r28 then (if (decide (r27.1 = 0) && (decide (r27.2.1 = 0) && true)) = true then ((pilelaw1_keyed.f k).bind fun r29 => Option.some r29) else Option.some false) else Option.some false))))) true := by
  have hR : Ev (fun k => (pilelaw1_keyed.f k).bind fun r => Option.some r) true := Ev.bind keyed_ev (Ev.now _)
  rcases m with rfl | rfl | rfl | rfl | rfl
  · have a : Ev (fun k => key_Speed.f k 1) (1200, 1, 0) := Ev.from 50 fun k => (by kernel_rfl : key_Speed.f (k + 50) 1 = some (1200, 1, 0))
    have b : Ev (fun k => pileref1_SpeedOf.f k 1) (1200, 1) := Ev.from 50 fun k => (by kernel_rfl : pileref1_SpeedOf.f (k + 50) 1 = some (1200, 1))
    refine Ev.bind a ?_
    rw [show pileref1_SpanFault.f 1 1 2000 = some 0 by decide]
    simp only [Option.bind_some]
    exact Ev.pos (by first | trivial | rfl | decide) (Ev.pos (by first | trivial | rfl | decide) (Ev.bind b (Ev.pos (by first | trivial | rfl | decide) hR)))
  · have a : Ev (fun k => key_Speed.f k 60) (20, 1, 0) := Ev.from 50 fun k => (by kernel_rfl : key_Speed.f (k + 50) 60 = some (20, 1, 0))
    have b : Ev (fun k => pileref1_SpeedOf.f k 60) (20, 1) := Ev.from 50 fun k => (by kernel_rfl : pileref1_SpeedOf.f (k + 50) 60 = some (20, 1))
    refine Ev.bind a ?_
    rw [show pileref1_SpanFault.f 60 1 2000 = some 0 by decide]
    simp only [Option.bind_some]
    exact Ev.pos (by first | trivial | rfl | decide) (Ev.pos (by first | trivial | rfl | decide) (Ev.bind b (Ev.pos (by first | trivial | rfl | decide) hR)))
  · have a : Ev (fun k => key_Speed.f k 2000) (3, 5, 0) := Ev.from 50 fun k => (by kernel_rfl : key_Speed.f (k + 50) 2000 = some (3, 5, 0))
    have b : Ev (fun k => pileref1_SpeedOf.f k 2000) (3, 5) := Ev.from 50 fun k => (by kernel_rfl : pileref1_SpeedOf.f (k + 50) 2000 = some (3, 5))
    refine Ev.bind a ?_
    rw [show pileref1_SpanFault.f 2000 1 2000 = some 0 by decide]
    simp only [Option.bind_some]
    exact Ev.pos (by first | trivial | rfl | decide) (Ev.pos (by first | trivial | rfl | decide) (Ev.bind b (Ev.pos (by first | trivial | rfl | decide) hR)))
  · have a : Ev (fun k => key_Speed.f k 0) (0, 0, 1) := Ev.of fun k => rfl
    refine Ev.bind a ?_
    rw [show pileref1_SpanFault.f 0 1 2000 = some 1 by decide]
    simp only [Option.bind_some]
    exact Ev.neg (by first | decide | simp) (Ev.pos (by first | trivial | rfl | decide) (Ev.pos (by first | trivial | rfl | decide) hR))
  · have a : Ev (fun k => key_Speed.f k 2001) (0, 0, 1) := Ev.of fun k => rfl
    refine Ev.bind a ?_
    rw [show pileref1_SpanFault.f 2001 1 2000 = some 1 by decide]
    simp only [Option.bind_some]
    exact Ev.neg (by first | decide | simp) (Ev.pos (by first | trivial | rfl | decide) (Ev.pos (by first | trivial | rfl | decide) hR))
theorem unit_eq (w : Int) (m : w = 1 ∨ w = 20 ∨ w = 25 ∨ w = 100 ∨ w = 0 ∨ w = 101) : ∃ a b : Int, key_Unit.f w = some (a, b) ∧ pileref1_SpanFault.f w 1 100 = some b ∧ (b = 0 → ¬ w = 0 ∧ a = wrap64 (Int.tdiv 1200 w)) ∧ (¬ b = 0 → a = 0) := by
  rcases m with rfl | rfl | rfl | rfl | rfl | rfl
  · exact ⟨1200, 0, by decide +kernel, by decide +kernel, by decide +kernel, by decide +kernel⟩
  · exact ⟨60, 0, by decide +kernel, by decide +kernel, by decide +kernel, by decide +kernel⟩
  · exact ⟨48, 0, by decide +kernel, by decide +kernel, by decide +kernel, by decide +kernel⟩
  · exact ⟨12, 0, by decide +kernel, by decide +kernel, by decide +kernel, by decide +kernel⟩
  · exact ⟨0, 1, by decide +kernel, by decide +kernel, by decide +kernel, by decide +kernel⟩
  · exact ⟨0, 1, by decide +kernel, by decide +kernel, by decide +kernel, by decide +kernel⟩
theorem SignsCoded (l : List Int) (hl : l.length ≤ 140737488351232) : ∃ k, pilelaw1_SignsCoded.f k l = some true := by
  obtain ⟨t, s1, e1, t1, t2, q1, q2⟩ := Saying_spec l 0 (by omega) (by omega) hl
  obtain ⟨c, s2, e2, c2, q3, q4⟩ := CodeString_spec l s1 (by omega) (by omega) hl
  obtain ⟨w, e3, m3⟩ := Pick_spec l s2 [1, 20, 25, 100, 0, 101] (by omega) (by omega) hl (by simp) (by simp)
  obtain ⟨u, e4, m4⟩ := Pick_spec l (s2 + 1) [1, 60, 2000, 0, 2001] (by omega) (by omega) hl (by simp) (by simp)
  simp only [List.mem_cons, List.not_mem_nil, or_false] at m3 m4
  have e5 := SaidFault_ev t (by omega)
  have e6 := CheckSaid_ev t (by omega)
  have eq := EqualSg sgL (by decide)
  obtain ⟨v, p1, p2⟩ := Plain_both c (by omega)
  obtain ⟨a, b, u1, u2, u3, u4⟩ := unit_eq w m3
  have hsp := speedTail u m4
  have j13 : Ev (fun k => pilelaw1_SignsCoded.j13 k (mk c) w u) true := by
    refine Ev.succ ?_
    simp only [pilelaw1_SignsCoded.j13]
    refine Ev.bind p1 (Ev.bind p2 (Ev.pos rfl (Ev.pos rfl ?_)))
    simp only [u1, u2, Option.bind_some]
    refine Ev.pos trivial ?_
    by_cases cb : b = 0
    · obtain ⟨w0, wa⟩ := u3 cb
      refine Ev.pos cb (Ev.neg w0 (Ev.pos wa (Ev.pos cb ?_)))
      exact hsp
    · refine Ev.neg cb (Ev.neg cb (Ev.pos (u4 cb) ?_))
      exact hsp
  refine (Ev.bind e1 (Ev.bind e2 (Ev.bind e3 (Ev.bind e4 (Ev.bind e5 (Ev.bind Codes_sg (Ev.bind CodesOf_sg (Ev.bind eq (Ev.pos rfl (Ev.bind e6 (Ev.pos rfl ?_))))))))))).ex
  by_cases h : saidF t = 0
  · obtain ⟨n, n1, n2⟩ := Units_ev t h
    rw [h]
    exact Ev.bind (Code_ev t h) (Ev.bind n1 (Ev.pos rfl (Ev.pos rfl (Ev.bind (CodedOf_full t h) (Ev.pos rfl (Ev.pos rfl (Ev.bind n2 (Ev.pos rfl j13))))))))
  · have eC : Ev (fun k => key_Code.f k (mk t)) (eB, saidF t) := Ev.bind e6 (Ev.neg h (Ev.now _))
    have eU : Ev (fun k => key_Units.f k (mk t)) (0, saidF t) := Ev.bind e6 (Ev.neg h (Ev.now _))
    exact Ev.bind eC (Ev.bind eU (Ev.neg h (Ev.pos rfl (Ev.pos rfl (Ev.pos rfl (Ev.pos rfl j13))))))
end Go.EV.Pure
