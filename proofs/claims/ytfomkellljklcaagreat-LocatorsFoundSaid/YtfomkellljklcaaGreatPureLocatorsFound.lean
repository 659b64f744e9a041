/- The plain law: the Lean functions answer true for every list. -/
import Derived.Test.YtfomkellljklcaaGreatXLocatorsFound
import Derived.KernelRfl
import Derived.Lib.SlTrimSet
set_option linter.unusedVariables false
set_option linter.unusedSimpArgs false
/-! Plain laws that all statements use: numbers that don't wrap, functions with fuel, loops over lists, the stream's draws. -/
namespace Go.EV.Pure
open Go Go.EV Go.RowKit
theorem wrap_id {e : Int} (h1 : -9223372036854775808 ≤ e) (h2 : e ≤ 9223372036854775807) : wrap64 e = e := by
  unfold wrap64
  omega
theorem tmod_pos {a n : Int} (h : 0 ≤ a) : a.tmod n = a % n := Int.tmod_eq_emod_of_nonneg h
theorem tdiv_pos {a n : Int} (h : 0 ≤ a) : a.tdiv n = a / n := Int.tdiv_eq_ediv_of_nonneg h
theorem mn_eq (a b : Int) : mn a b = if b < a then b else a := rfl
theorem rdE_get {α : Type} (E : Enc α) (l : List α) (i : Nat) (h : i < l.length) : rdE E l (i : Int) = l[i] := by
  simp [rdE, List.getD, List.getElem?_eq_getElem h]
theorem rd_mem (l : List Int) (i : Int) (h0 : 0 ≤ i) (h1 : i < l.length) : rd l i ∈ l := by
  have h : i.toNat < l.length := by omega
  have : rd l i = l[i.toNat] := by simp [rd, List.getD, List.getElem?_eq_getElem h]
  rw [this]
  exact List.getElem_mem h
theorem wrap_succ {i : Nat} (h : i ≤ 1000000000000000) : wrap64 ((i : Int) + 1) = ((i + 1 : Nat) : Int) := by rw [wrap_id (by omega) (by omega)]; omega

/-- From some fuel on the function answers v. -/
def Ev {α : Type} (f : Nat → Option α) (v : α) : Prop := ∃ K, ∀ k, K ≤ k → f k = some v
section
variable {α β : Type}
theorem Ev.now (v : α) : Ev (fun _ => some v) v := ⟨0, fun _ _ => rfl⟩
theorem Ev.of {f : Nat → Option α} {v : α} (h : ∀ k, f k = some v) : Ev f v := ⟨0, fun k _ => h k⟩
theorem Ev.from {f : Nat → Option α} {v : α} (n : Nat) (h : ∀ k, f (k + n) = some v) : Ev f v := ⟨n, fun k hk => by
  obtain ⟨m, rfl⟩ : ∃ m, k = m + n := ⟨k - n, by omega⟩
  exact h m⟩
theorem Ev.bind {f : Nat → Option α} {a : α} {g : Nat → α → Option β} {v : β} (h : Ev f a) (h2 : Ev (fun k => g k a) v) : Ev (fun k => (f k).bind (g k)) v := by
  obtain ⟨K, h⟩ := h
  obtain ⟨K2, h2⟩ := h2
  exact ⟨max K K2, fun k hk => by show (f k).bind (g k) = some v; rw [h k (by omega)]; exact h2 k (by omega)⟩
theorem Ev.step {g f : Nat → Option α} {v : α} (h : ∀ k, g (k + 1) = f k) (h2 : Ev f v) : Ev g v := by
  obtain ⟨K, h2⟩ := h2
  exact ⟨K + 1, fun k hk => by
    obtain ⟨m, rfl⟩ : ∃ m, k = m + 1 := ⟨k - 1, by omega⟩
    rw [h m]; exact h2 m (by omega)⟩
theorem Ev.succ {g : Nat → Option α} {v : α} (h : Ev (fun k => g (k + 1)) v) : Ev g v := Ev.step (fun _ => rfl) h
theorem Ev.congr {f g : Nat → Option α} {v : α} (h : ∀ k, f k = g k) (h2 : Ev g v) : Ev f v := by
  obtain ⟨K, h2⟩ := h2
  exact ⟨K, fun k hk => (h k).trans (h2 k hk)⟩
theorem Ev.ex {f : Nat → Option α} {v : α} (h : Ev f v) : ∃ k, f k = some v := let ⟨K, h⟩ := h; ⟨K, h K (Nat.le_refl _)⟩
theorem Ev.uniq {f : Nat → Option α} {v w : α} (h : Ev f v) (h2 : Ev f w) : v = w := by
  obtain ⟨K, h⟩ := h
  obtain ⟨K2, h2⟩ := h2
  have a := h (max K K2) (by omega)
  rw [h2 (max K K2) (by omega)] at a
  exact (Option.some.inj a).symm
theorem Ev.pos {p : Prop} [Decidable p] {f g : Nat → Option α} {v : α} (c : p) (h1 : Ev f v) : Ev (fun k => if p then f k else g k) v := by simp only [if_pos c]; exact h1
theorem Ev.neg {p : Prop} [Decidable p] {f g : Nat → Option α} {v : α} (c : ¬ p) (h1 : Ev g v) : Ev (fun k => if p then f k else g k) v := by simp only [if_neg c]; exact h1

/-- A loop over a list by its index: what holds of its state carries over each round, or the round is the last one. -/
theorem loop {σ ρ : Type} (l : List α) (F : Nat → Int → σ → Option ρ) (I : Nat → σ → Prop) (post : ρ → Prop)
    (hstep : ∀ (i : Nat) (s : σ), i < l.length → I i s → (∃ s', I (i + 1) s' ∧ ∀ v, Ev (fun k => F k ((i + 1 : Nat) : Int) s') v → Ev (fun k => F k (i : Int) s) v) ∨ ∃ v, post v ∧ Ev (fun k => F k (i : Int) s) v)
    (hend : ∀ s, I l.length s → ∃ v, post v ∧ Ev (fun k => F k (l.length : Int) s) v) :
    ∀ (i : Nat) (s : σ), i ≤ l.length → I i s → ∃ v, post v ∧ Ev (fun k => F k (i : Int) s) v := by
  intro i
  generalize hd : l.length - i = d
  induction d generalizing i with
  | zero =>
    intro s hi hI
    obtain rfl : i = l.length := by omega
    exact hend s hI
  | succ d ih =>
    intro s hi hI
    rcases hstep i s (by omega) hI with ⟨s', h1, h2⟩ | h
    · obtain ⟨v, h3, h4⟩ := ih (i + 1) (by omega) s' (by omega) h1
      exact ⟨v, h3, h2 v h4⟩
    · exact h
end
end Go.EV.Pure
namespace Go.EV.Pure
open Go Go.EV Go.RowKit
set_option linter.unusedSimpArgs false
/-! Strings as lists of bytes. -/
def mk (p : List UInt8) : ByteArray := ⟨p.toArray⟩
theorem mk_data (p : List UInt8) : (mk p).data.toList = p := by simp [mk]
theorem mk_size (p : List UInt8) : (mk p).size = p.length := by simp [mk, ByteArray.size]
theorem mk_of (s : ByteArray) : s = mk s.data.toList := by
  apply ByteArray.ext
  simp [mk]
theorem mk_extract (p : List UInt8) (i j : Nat) : (mk p).extract i j = mk ((p.take j).drop i) := by
  apply ByteArray.ext
  simp only [mk, ByteArray.data_extract]
  apply Array.ext'
  simp [List.extract_eq_take_drop, List.drop_take]
theorem mk_bt (p : List UInt8) (i : Nat) (h : i < p.length) : bt (mk p) (i : Int) = (p[i].toNat : Int) := by
  unfold bt
  have hs : (Int.toNat (i : Int)) < (mk p).size := by simpa [mk_size] using h
  rw [dif_pos hs]
  have : (mk p)[Int.toNat (i : Int)]'hs = p[i] := by
    show (p.toArray)[Int.toNat (i : Int)]'_ = _
    simp only [Int.toNat_natCast, List.getElem_toArray]
    rfl
  rw [this]
  rfl
theorem mk_ascii (p : List UInt8) : asciiT (mk p) = p.all fun b => decide (b.toNat < 128) := by unfold asciiT; rw [mk_data]
theorem all_bytes {P : UInt8 → Prop} (h : ∀ n : Fin 256, P (UInt8.ofNat n.val)) (b : UInt8) : P b := by
  have := h ⟨b.toNat, UInt8.toNat_lt b⟩
  simpa using this
theorem ascii_sub {p q : List UInt8} (h : asciiT (mk p) = true) (hq : ∀ b ∈ q, b ∈ p) : asciiT (mk q) = true := by
  rw [mk_ascii, List.all_eq_true] at h ⊢
  exact fun b hb => h b (hq b hb)
end Go.EV.Pure
namespace Go.EV.Pure
open Go Go.EV Go.RowKit
theorem Below_j (x : Int) : Ev (fun k => pilemake_Below.j6 k x) x := Ev.from 1 fun k => rfl
theorem Below_spec (x n : Int) (hn : n ≤ 9223372036854775807) : ∃ r, Ev (fun k => pilemake_Below.f k x n) r ∧ 0 ≤ r ∧ (1 ≤ n → r < n) ∧ (n < 1 → r = 0) := by
  unfold pilemake_Below.f
  by_cases h : n < 1
  · simp only [if_pos h]
    exact ⟨0, Ev.now _, by omega, by omega, fun _ => rfl⟩
  · simp only [if_neg h, if_neg (show ¬ n = 0 by omega)]
    have hm := Int.natAbs_tmod x n
    have hm2 := Nat.mod_lt x.natAbs (show n.natAbs > 0 by omega)
    have h1 : x.tmod n < n := by omega
    have h2 : -n < x.tmod n := by omega
    by_cases h3 : x.tmod n < 0
    · simp only [if_pos h3]
      refine ⟨_, Below_j _, ?_, ?_, ?_⟩ <;> rw [wrap_id (by omega) (by omega)] <;> omega
    · simp only [if_neg h3]
      exact ⟨_, Below_j _, by omega, by omega, by omega⟩
theorem Next_spec (l : List Int) (s n : Int) (h0 : 0 ≤ s) (h1 : s ≤ 4611686018427387904) (hn : n ≤ 9223372036854775807) (hl : l.length ≤ 140737488351232) :
    ∃ r, Ev (fun k => pilemake_Stream_Next.f k l s n) (r, l, s + 1) ∧ 0 ≤ r ∧ (1 ≤ n → r < n) := by
  unfold pilemake_Stream_Next.f
  have hs : wrap64 (s + 1) = s + 1 := wrap_id (by omega) (by omega)
  have hs2 : wrap64 (s + 1 - 1) = s := by rw [wrap_id (by omega) (by omega)]; omega
  simp only [hs, hs2]
  by_cases h : (l.length : Int) = 0
  · simp only [if_pos h]
    obtain ⟨r, hr, r0, r1, _⟩ := Below_spec (wrap64 ((s + 1) * 7919)) n hn
    exact ⟨r, Ev.bind hr (Ev.now _), r0, r1⟩
  · have e : Int.tmod s (l.length : Int) = s % (l.length : Int) := Int.tmod_eq_emod_of_nonneg h0
    have m0 : 0 ≤ s % (l.length : Int) := Int.emod_nonneg _ h
    have m1 : s % (l.length : Int) < (l.length : Int) := Int.emod_lt_of_pos _ (by omega)
    simp only [if_neg h, e, if_pos m0, if_pos m1]
    obtain ⟨a, ha, _⟩ := Below_spec (rd l (s % (l.length : Int))) 1073741824 (by omega)
    obtain ⟨r, hr, r0, r1, _⟩ := Below_spec (wrap64 (a + wrap64 (wrap64 (Int.tdiv s (l.length : Int)) * wrap64 (7919 + s % (l.length : Int))))) n hn
    exact ⟨r, Ev.bind ha (Ev.bind hr (Ev.now _)), r0, r1⟩
theorem Pick_spec (l : List Int) (s : Int) (m : List Int) (h0 : 0 ≤ s) (h1 : s ≤ 4611686018427387904) (hl : l.length ≤ 140737488351232) (hm : 1 ≤ m.length) (hm2 : m.length ≤ 1000) :
    ∃ r, Ev (fun k => pilemake_Stream_Pick.f k l s m) (r, l, s + 1) ∧ r ∈ m := by
  obtain ⟨r, hr, r0, r1⟩ := Next_spec l s (m.length : Int) h0 h1 (by omega) hl
  have r2 := r1 (by omega)
  exact ⟨rd m r, Ev.bind hr (Ev.pos r0 (Ev.pos r2 (Ev.now _))), rd_mem m r r0 r2⟩
theorem Range_spec (l : List Int) (s a b : Int) (h0 : 0 ≤ s) (h1 : s ≤ 4611686018427387904) (ha : -1099511627776 ≤ a) (hb : b ≤ 1099511627776) (hab : a ≤ b) (hl : l.length ≤ 140737488351232) :
    ∃ r, Ev (fun k => pilemake_Stream_Range.f k l s a b) (r, l, s + 1) ∧ a ≤ r ∧ r ≤ b := by
  obtain ⟨r, hr, r0, r1⟩ := Next_spec l s (b - a + 1) h0 h1 (by omega) hl
  have r2 := r1 (by omega)
  refine ⟨a + r, ?_, by omega, by omega⟩
  unfold pilemake_Stream_Range.f
  rw [wrap_id (e := b - a) (by omega) (by omega), wrap_id (e := b - a + 1) (by omega) (by omega)]
  refine Ev.neg (by omega) (Ev.bind hr ?_)
  simp only [wrap_id (e := a + r) (by omega) (by omega)]
  exact Ev.now _
theorem Flip_spec (l : List Int) (s n : Int) (h0 : 0 ≤ s) (h1 : s ≤ 4611686018427387904) (hn : n ≤ 9223372036854775807) (hl : l.length ≤ 140737488351232) :
    ∃ b, Ev (fun k => pilemake_Stream_Flip.f k l s n) (b, l, s + 1) := by
  obtain ⟨r, hr, _⟩ := Next_spec l s n h0 h1 hn hl
  exact ⟨decide (r = 0), Ev.bind hr (Ev.now _)⟩
end Go.EV.Pure
namespace Go.EV.Pure
open Go Go.EV Go.RowKit
set_option linter.unusedSimpArgs false
set_option maxRecDepth 100000
/-! Strings that the stream draws: of ASCII, and short. -/
def GS (n : Nat) (s : ByteArray) : Prop := asciiT s = true ∧ s.size ≤ n
theorem ascii_app {a b : ByteArray} (ha : asciiT a = true) (hb : asciiT b = true) : asciiT (a ++ b) = true := by
  unfold asciiT at ha hb ⊢
  simp only [ByteArray.data_append, Array.toList_append, List.all_append, ha, hb, Bool.and_self]
theorem ascii_ext {a : ByteArray} (ha : asciiT a = true) (i j : Nat) : asciiT (a.extract i j) = true := by
  rw [mk_of a] at ha ⊢
  rw [mk_extract]
  exact ascii_sub ha fun b hb => List.mem_of_mem_take (List.mem_of_mem_drop hb)
theorem enc_ascii : ∀ b : UInt8, b.toNat < 128 → Utf8.encode (IntKind.i32.wrap (b.toNat : Int)) = mk [b] := all_bytes (by decide +kernel)
theorem GS.app {n m : Nat} {a b : ByteArray} (ha : GS n a) (hb : GS m b) : GS (n + m) (a ++ b) := ⟨ascii_app ha.1 hb.1, by rw [ByteArray.size_append]; have := ha.2; have := hb.2; omega⟩
theorem GS.mono {n m : Nat} {a : ByteArray} (ha : GS n a) (h : n ≤ m) : GS m a := ⟨ha.1, Nat.le_trans ha.2 h⟩
theorem ext_le (x : ByteArray) (a b : Nat) : (x.extract a b).size ≤ x.size := by rw [ByteArray.size_extract]; omega
theorem Changed_fin (l : List Int) (s o : Int) (i X : Nat) (hi : i < X) (hX : X ≤ 1000000000) (A M Y Z : ByteArray) (hA : A.size ≤ 1000000000) (hM : M.size ≤ 1) (hY : Y.size ≤ 1000000000) (hZ : Z.size ≤ 1000000000) :
    ∃ r, (r = A ++ M ++ Y ∨ r = A ++ M ++ Z ∨ r = A ++ Y) ∧ Ev (fun k => (if o = 0 then (if 0 ≤ (i : Int) then (if (i : Int) ≤ (X : Int) then (if A.size + M.size ≤ 9223372036854775807 then (if 0 ≤ ((i + 1 : Nat) : Int) then (if ((i + 1 : Nat) : Int) ≤ (X : Int) then (if (A ++ M).size + Y.size ≤ 9223372036854775807 then Option.some ((A ++ M) ++ Y, l, s) else Option.none) else Option.none) else Option.none) else Option.none) else Option.none) else Option.none) else (if o = 1 then (if 0 ≤ (i : Int) then (if (i : Int) ≤ (X : Int) then (if A.size + M.size ≤ 9223372036854775807 then (if 0 ≤ (i : Int) then (if (i : Int) ≤ (X : Int) then (if (A ++ M).size + Z.size ≤ 9223372036854775807 then Option.some ((A ++ M) ++ Z, l, s) else Option.none) else Option.none) else Option.none) else Option.none) else Option.none) else Option.none) else (if 0 ≤ (i : Int) then (if (i : Int) ≤ (X : Int) then (if 0 ≤ ((i + 1 : Nat) : Int) then (if ((i + 1 : Nat) : Int) ≤ (X : Int) then (if A.size + Y.size ≤ 9223372036854775807 then Option.some (A ++ Y, l, s) else Option.none) else Option.none) else Option.none) else Option.none) else Option.none)))) (r, l, s) := by
  have e : (A ++ M).size = A.size + M.size := ByteArray.size_append
  rw [e]
  generalize A.size = a at hA
  generalize M.size = m at hM
  generalize Y.size = y at hY
  generalize Z.size = z at hZ
  clear e
  by_cases c1 : o = 0
  · exact ⟨_, .inl rfl, Ev.pos c1 (Ev.pos (by omega) (Ev.pos (by omega) (Ev.pos (by omega) (Ev.pos (by omega) (Ev.pos (by omega) (Ev.pos (by omega) (Ev.now _)))))))⟩
  · by_cases c2 : o = 1
    · exact ⟨_, .inr (.inl rfl), Ev.neg c1 (Ev.pos c2 (Ev.pos (by omega) (Ev.pos (by omega) (Ev.pos (by omega) (Ev.pos (by omega) (Ev.pos (by omega) (Ev.pos (by omega) (Ev.now _))))))))⟩
    · exact ⟨_, .inr (.inr rfl), Ev.neg c1 (Ev.neg c2 (Ev.pos (by omega) (Ev.pos (by omega) (Ev.pos (by omega) (Ev.pos (by omega) (Ev.pos (by omega) (Ev.now _)))))))⟩
theorem size_pos (y : ByteArray) (hy : ¬ y = (⟨#[]⟩ : ByteArray)) : 1 ≤ y.size := by
  rcases Nat.eq_zero_or_pos y.size with h | h
  · refine absurd ?_ hy
    apply ByteArray.ext
    apply Array.eq_empty_of_size_eq_zero
    exact h
  · exact h
theorem bt_enc (w : ByteArray) (hw : asciiT w = true) (d : Nat) (hd : d < w.size) : ∃ b : UInt8, Utf8.encode (IntKind.i32.wrap (bt w (d : Int))) = mk [b] ∧ asciiT (mk [b]) = true := by
  have hd : d < w.data.toList.length := by rw [Array.length_toList]; exact hd
  have hb : bt w (d : Int) = ((w.data.toList[d]).toNat : Int) := by
    conv => lhs; rw [mk_of w]
    rw [mk_bt _ d hd]
  have ha : (w.data.toList[d]).toNat < 128 := by
    unfold asciiT at hw
    rw [List.all_eq_true] at hw
    simpa using hw _ (List.getElem_mem hd)
  exact ⟨w.data.toList[d], by rw [hb]; exact enc_ascii _ ha, by rw [mk_ascii]; simpa using ha⟩
theorem Changed_GS (n : Nat) (l : List Int) (s : Int) (x w : ByteArray) (h0 : 0 ≤ s) (h1 : s ≤ 4611686018427387000) (hl : l.length ≤ 140737488351232) (hx : GS n x) (hn : n ≤ 100000000) (hw : GS 1000 w) (hw0 : ¬ w = (⟨#[]⟩ : ByteArray)) :
    ∃ r s', Ev (fun k => pilemake_Stream_Changed.f k l s x w) (r, l, s') ∧ (GS (n + 1 + n) r ∨ r = w) ∧ s ≤ s' ∧ s' ≤ s + 3 := by
  unfold pilemake_Stream_Changed.f
  by_cases c : x = (⟨#[]⟩ : ByteArray)
  · exact ⟨w, s, Ev.pos c (Ev.now _), .inr rfl, by omega, by omega⟩
  have sx := size_pos x c
  have sw := size_pos w hw0
  have hx2 := hx.2
  have hw2 := hw.2
  obtain ⟨i, ei, i0, i1⟩ := Next_spec l s (x.size : Int) h0 (by omega) (by omega) hl
  obtain ⟨d, ed, d0, d1⟩ := Next_spec l (s + 1) (w.size : Int) (by omega) (by omega) (by omega) hl
  obtain ⟨o, eo, o0, o1⟩ := Next_spec l (s + 1 + 1) 3 (by omega) (by omega) (by omega) hl
  have i2 := i1 (by omega)
  have d2 := d1 (by omega)
  clear i1 d1 o1
  obtain ⟨i, rfl⟩ : ∃ n : Nat, i = n := ⟨i.toNat, by omega⟩
  obtain ⟨d, rfl⟩ : ∃ n : Nat, d = n := ⟨d.toNat, by omega⟩
  obtain ⟨b, hb, ha⟩ := bt_enc w hw.1 d (by omega)
  have g1 : GS 1 (mk [b]) := ⟨ha, by rw [mk_size]; exact Nat.le_refl _⟩
  have w1 : wrap64 ((i : Int) + 1) = ((i + 1 : Nat) : Int) := wrap_succ (by omega)
  have gx : ∀ a b, GS n (x.extract a b) := fun a b => ⟨ascii_ext hx.1 a b, Nat.le_trans (ext_le x a b) hx.2⟩
  have zx : ∀ a b, (x.extract a b).size ≤ 1000000000 := fun a b => Nat.le_trans (ext_le x a b) (by omega)
  obtain ⟨r, h2, h3⟩ := Changed_fin l (s + 1 + 1 + 1) o i x.size (by omega) (by omega) (x.extract 0 i) (mk [b]) (x.extract (i + 1) x.size) (x.extract i x.size) (zx _ _) g1.2 (zx _ _) (zx _ _)
  refine ⟨r, s + 1 + 1 + 1, Ev.neg c (Ev.neg hw0 (Ev.bind ei (Ev.bind ed ?_))), .inl ?_, by omega, by omega⟩
  · refine Ev.pos d0 (Ev.pos d2 (Ev.bind eo ?_))
    simp only [hb, w1, Int.toNat_natCast]
    exact h3
  · rcases h2 with rfl | rfl | rfl
    · exact ((gx _ _).app g1).app (gx _ _)
    · exact ((gx _ _).app g1).app (gx _ _)
    · exact ((gx _ _).app (gx _ _)).mono (by omega)
end Go.EV.Pure
namespace Go.EV.Pure
open Go Go.EV Go.RowKit
set_option linter.unusedSimpArgs false
/-! Sites, the cosine, how far sites are from each other. -/
theorem tmod_neg {a n : Int} (h : a ≤ 0) : a.tmod n = -((-a) % n) := by
  have h1 := Int.neg_tmod (-a) n
  rw [Int.neg_neg] at h1
  rw [h1, Int.tmod_eq_emod_of_nonneg (by omega)]
theorem Outside_eq (a lo hi : Int) : kit_Outside.f a lo hi = some (decide (a < lo ∨ hi < a)) := by
  unfold kit_Outside.f
  split <;> simp [*]
theorem in_eq (a lo hi : Int) : pileref1_in.f a lo hi = some (decide (lo ≤ a ∧ a ≤ hi)) := by
  unfold pileref1_in.f
  split <;> simp [*]
theorem CheckSite_eq (n e : Int) : place_CheckSite.f n e = some (if (-324000 ≤ n ∧ n ≤ 324000) ∧ -648000 ≤ e ∧ e ≤ 647999 then 0 else 1) := by
  unfold place_CheckSite.f
  rw [Outside_eq, Outside_eq]
  simp only [Option.bind_some, decide_eq_true_eq]
  by_cases h : -324000 ≤ n ∧ n ≤ 324000
  · rw [if_neg (by omega)]
    by_cases h2 : -648000 ≤ e ∧ e ≤ 647999
    · rw [if_neg (by omega), if_pos ⟨h, h2⟩]
    · rw [if_pos (by omega), if_neg (by omega)]
  · rw [if_pos (by omega), if_neg (by omega)]
theorem SiteFault_eq (n e : Int) : pileref1_SiteFault.f n e = some (if (-324000 ≤ n ∧ n ≤ 324000) ∧ -648000 ≤ e ∧ e ≤ 647999 then 0 else 1) := by
  unfold pileref1_SiteFault.f
  rw [in_eq, in_eq]
  simp only [Option.bind_some, decide_eq_true_eq]
  by_cases h : -324000 ≤ n ∧ n ≤ 324000
  · rw [if_pos h]
    by_cases h2 : -648000 ≤ e ∧ e ≤ 647999
    · rw [if_pos h2, if_pos ⟨h, h2⟩]
    · rw [if_neg h2, if_neg (by omega)]
  · rw [if_neg h, if_neg (by omega)]
theorem cosine_mod (a : Int) : Int.tmod (wrap64 (Int.tmod a 1296000 + 1296000)) 1296000 = a % 1296000 := by
  by_cases h : 0 ≤ a
  · rw [tmod_pos h, wrap_id (by omega) (by omega), tmod_pos (by omega)]; omega
  · rw [tmod_neg (a := a) (by omega), wrap_id (by omega) (by omega), tmod_pos (by omega)]; omega
/-- An angle to the east, taken around the world. -/
def aroundV (a : Int) : Int := (a + 648000) % 1296000 - 648000
theorem aroundV_bd (a : Int) : -648000 ≤ aroundV a ∧ aroundV a ≤ 647999 := by unfold aroundV; omega
theorem around_eq (a : Int) (h0 : -1099511627776 ≤ a) (h1 : a ≤ 1099511627776) : place_around.f a = some (aroundV a) := by
  unfold place_around.f aroundV
  rw [wrap_id (e := a + 648000) (by omega) (by omega)]
  have h : Int.tmod (wrap64 (Int.tmod (a + 648000) 1296000 + 1296000)) 1296000 = (a + 648000) % 1296000 := cosine_mod _
  rw [h, wrap_id (by omega) (by omega)]
/-- A site that may be. -/
def Right (n e : Int) : Prop := (-324000 ≤ n ∧ n ≤ 324000) ∧ -648000 ≤ e ∧ e ≤ 647999
theorem mul_bd (a b A B : Int) (hA : 0 ≤ A) (_hB : 0 ≤ B) (ha : -A ≤ a ∧ a ≤ A) (hb : -B ≤ b ∧ b ≤ B) : -(A * B) ≤ a * b ∧ a * b ≤ A * B := by
  have h1 : (a.natAbs : Int) ≤ A := by omega
  have h2 : (b.natAbs : Int) ≤ B := by omega
  have h3 : (a.natAbs : Int) * (b.natAbs : Int) ≤ A * B := Int.mul_le_mul h1 h2 (by omega) hA
  have h4 : ((a * b).natAbs : Int) = (a.natAbs : Int) * (b.natAbs : Int) := by rw [Int.natAbs_mul]; push_cast; rfl
  omega
end Go.EV.Pure
namespace Go.EV.Pure
open Go Go.EV Go.RowKit
/-! Sites that the stream makes. -/
theorem SiteOf_j (n e : Int) (l : List Int) (s : Int) : Ev (fun k => pilemake_Stream_SiteOf.j4 k n e l s) (n, e, l, s) := Ev.from 1 fun k => rfl
theorem Odd_spec (l : List Int) (s a b : Int) (h0 : 0 ≤ s) (h1 : s ≤ 4611686018427387000) (ha : -1099511627776 ≤ a) (hb : b ≤ 1099511627776) (hab : a ≤ b) (hl : l.length ≤ 140737488351232) :
    ∃ r s', Ev (fun k => pilemake_Stream_Odd.f k l s a b) (r, l, s') ∧ s ≤ s' ∧ s' ≤ s + 2 := by
  obtain ⟨f, e1⟩ := Flip_spec l s 12 h0 (by omega) (by omega) hl
  cases f with
  | true =>
    obtain ⟨r, e2, _⟩ := Pick_spec l (s + 1) [wrap64 (a - 1), wrap64 (b + 1), a, b, (-1099511627776), 1099511627776] (by omega) (by omega) hl (by simp) (by simp)
    exact ⟨r, s + 1 + 1, Ev.bind e1 (Ev.pos rfl (Ev.bind e2 (Ev.now _))), by omega, by omega⟩
  | false =>
    obtain ⟨r, e2, _⟩ := Range_spec l (s + 1) a b (by omega) (by omega) ha hb hab hl
    exact ⟨r, s + 1 + 1, Ev.bind e1 (Ev.neg Bool.false_ne_true (Ev.bind e2 (Ev.now _))), by omega, by omega⟩
theorem SiteOf_spec (l : List Int) (s : Int) (h0 : 0 ≤ s) (h1 : s ≤ 4611686018427380000) (hl : l.length ≤ 140737488351232) :
    ∃ n e s', Ev (fun k => pilemake_Stream_SiteOf.f k l s) (n, e, l, s') ∧ s ≤ s' ∧ s' ≤ s + 20 := by
  obtain ⟨r1, e1, _⟩ := Range_spec l s (-324000) 324000 (by omega) (by omega) (by omega) (by omega) (by omega) hl
  obtain ⟨r2, e2, _⟩ := Pick_spec l (s + 1) [0, 172800, 174599, (-324000), 324000, r1] (by omega) (by omega) hl (by simp) (by simp)
  obtain ⟨r3, e3, _⟩ := Range_spec l (s + 1 + 1) (-648000) 647999 (by omega) (by omega) (by omega) (by omega) (by omega) hl
  obtain ⟨r4, e4, _⟩ := Pick_spec l (s + 1 + 1 + 1) [0, 36000, (-648000), 647999, r3] (by omega) (by omega) hl (by simp) (by simp)
  obtain ⟨f, e5⟩ := Flip_spec l (s + 1 + 1 + 1 + 1) 20 (by omega) (by omega) (by omega) hl
  cases f with
  | true =>
    obtain ⟨r6, s6, e6, b6, c6⟩ := Odd_spec l (s + 1 + 1 + 1 + 1 + 1) (-324000) 324000 (by omega) (by omega) (by omega) (by omega) (by omega) hl
    obtain ⟨r7, s7, e7, b7, c7⟩ := Odd_spec l s6 (-648000) 647999 (by omega) (by omega) (by omega) (by omega) (by omega) hl
    exact ⟨r6, r7, s7, Ev.bind e1 (Ev.bind e2 (Ev.bind e3 (Ev.bind e4 (Ev.bind e5 (Ev.pos rfl (Ev.bind e6 (Ev.bind e7 (SiteOf_j _ _ _ _)))))))), by omega, by omega⟩
  | false =>
    exact ⟨r2, r4, s + 1 + 1 + 1 + 1 + 1, Ev.bind e1 (Ev.bind e2 (Ev.bind e3 (Ev.bind e4 (Ev.bind e5 (Ev.neg Bool.false_ne_true (SiteOf_j _ _ _ _)))))), by omega, by omega⟩
theorem RightSite_loop (l : List Int) (hl : l.length ≤ 140737488351232) (d : Nat) : ∀ (i s : Int), 0 ≤ i → i + d = 6 → 0 ≤ s → s + 20 * d ≤ 4611686018427370000 →
    ∃ n e s', Ev (fun k => pilemake_Stream_RightSite.l0 k i l s) (n, e, l, s') ∧ Right n e ∧ s ≤ s' ∧ s' ≤ s + 20 * d := by
  induction d with
  | zero =>
    intro i s h0 hi hs _
    refine ⟨0, 0, s, Ev.step (f := fun _ => some _) (fun k => ?_) (Ev.now _), by unfold Right; omega, by omega, by omega⟩
    simp only [pilemake_Stream_RightSite.l0]
    rw [if_neg (by omega)]
  | succ d ih =>
    intro i s h0 hi hs h1
    obtain ⟨n, e, s', e1, b1, c1⟩ := SiteOf_spec l s hs (by omega) hl
    by_cases c : Right n e
    · refine ⟨n, e, s', Ev.succ ?_, c, by omega, by omega⟩
      simp only [pilemake_Stream_RightSite.l0]
      refine Ev.pos (by omega) (Ev.bind e1 ?_)
      simp only [SiteFault_eq, Option.bind_some]
      unfold Right at c
      exact Ev.pos (if_pos c) (Ev.now _)
    · obtain ⟨n2, e2, s2, e3, b2, c2, c3⟩ := ih (i + 1) s' (by omega) (by omega) (by omega) (by omega)
      refine ⟨n2, e2, s2, Ev.succ ?_, b2, by omega, by omega⟩
      simp only [pilemake_Stream_RightSite.l0, wrap_id (e := i + 1) (by omega) (by omega)]
      refine Ev.pos (by omega) (Ev.bind e1 ?_)
      simp only [SiteFault_eq, Option.bind_some]
      unfold Right at c
      exact Ev.neg (by rw [if_neg c]; omega) e3
theorem RightSite_spec (l : List Int) (s : Int) (h0 : 0 ≤ s) (h1 : s ≤ 4611686018427360000) (hl : l.length ≤ 140737488351232) :
    ∃ n e s', Ev (fun k => pilemake_Stream_RightSite.f k l s) (n, e, l, s') ∧ Right n e ∧ s ≤ s' ∧ s' ≤ s + 120 := by
  obtain ⟨n, e, s', a, b, c, d⟩ := RightSite_loop l hl 6 0 s (by omega) (by omega) h0 (by omega)
  exact ⟨n, e, s', a, b, c, by omega⟩
end Go.EV.Pure
namespace Go.EV.Pure
open Go Go.EV Go.RowKit
set_option linter.unusedSimpArgs false
/-! Locators: of sites, their areas and middles. -/
theorem bt_bytes (l : List Int) (i : Nat) (h : i < l.length) (h0 : 0 ≤ l[i] ∧ l[i] < 256) : bt (bytesE l) (i : Int) = l[i] := by
  unfold bt bytesE
  have hs : (Int.toNat (i : Int)) < (strOfNums l).size := by rw [strOfNums_size]; simpa using h
  rw [dif_pos hs]
  have : (strOfNums l)[Int.toNat (i : Int)]'hs = UInt8.ofNat (l[i]).toNat := by
    show (strOfNums l).data[Int.toNat (i : Int)] = _
    simp [strOfNums]
  rw [this, UInt8.toNat_ofNat']
  omega
theorem bytes_size (l : List Int) : (bytesE l).size = l.length := strOfNums_size l
def lvF (i : Nat) : Int := if i < 2 then 97 else if i < 4 then 48 else 97
def lvM (i : Nat) : Int := if i < 2 then 18 else if i < 4 then 10 else 24
def lvW (i : Nat) : Int := if i < 2 then 72000 else if i < 4 then 7200 else 300
def lvH (i : Nat) : Int := if i < 2 then 36000 else if i < 4 then 3600 else 150
def lvL : List (Int × Int × Int × Int) := [(18, 97, 72000, 36000), (10, 48, 7200, 3600), (24, 97, 300, 150)]
theorem levels_eq : place_levels.f = some lvL := rfl
theorem six (i : Nat) (h : i < 6) : i = 0 ∨ i = 1 ∨ i = 2 ∨ i = 3 ∨ i = 4 ∨ i = 5 := by omega
theorem lv_rd (i : Nat) (h : i < 6) : wrap64 (Int.tdiv (i : Int) 2) = ((i / 2 : Nat) : Int) ∧ rdE e_IIII lvL ((i / 2 : Nat) : Int) = (lvM i, lvF i, lvW i, lvH i) := by
  rcases six i h with rfl | rfl | rfl | rfl | rfl | rfl <;> exact ⟨by rw [tdiv_pos (by omega), wrap_id (by omega) (by omega)]; rfl, rfl⟩
/-- The number that a byte of a locator stands for. -/
def lvV (s : ByteArray) (i : Nat) : Int := bt s (i : Int) - lvF i
def locOK (s : ByteArray) : Prop := (s.size = 2 ∨ s.size = 4 ∨ s.size = 6) ∧ ∀ i < s.size, 0 ≤ lvV s i ∧ lvV s i < lvM i
theorem lvM_bd (i : Nat) : 0 < lvM i ∧ lvM i < 200 := by unfold lvM; split <;> (try split) <;> omega
theorem IsLocator_loop (s : ByteArray) (h : locOK s) (d : Nat) : ∀ i : Nat, i + d = s.size → Ev (fun k => place_IsLocator.l0 k s (i : Int)) true := by
  have hs := h.1
  induction d with
  | zero =>
    intro i hi
    refine Ev.step (f := fun _ => some _) (fun k => ?_) (Ev.now _)
    simp only [place_IsLocator.l0]
    rw [if_neg (by omega)]
  | succ d ih =>
    intro i hi
    obtain ⟨q1, q2⟩ := lv_rd i (by omega)
    obtain ⟨v0, v1⟩ := h.2 i (by omega)
    have hM := lvM_bd i
    have hlen : (lvL.length : Int) = 3 := rfl
    unfold lvV at v0 v1
    have e0 : (bt s (i : Int) - lvF i) % 256 = bt s (i : Int) - lvF i := by omega
    refine Ev.step (fun k => ?_) (ih (i + 1) (by omega))
    simp only [place_IsLocator.l0, levels_eq, Option.bind_some, q1, q2, hlen, e0]
    rw [if_pos (by omega), if_pos (by omega), if_pos (by omega), if_pos (by omega), if_pos (by omega), if_neg (by omega), if_pos (by omega), if_pos (by omega), wrap_id (e := bt s (i : Int) - lvF i) (by omega) (by omega), if_neg (by omega), wrap_succ (by omega)]
theorem IsLocator_ev (s : ByteArray) (h : locOK s) : Ev (fun k => place_IsLocator.f k s) true := by
  have hl := IsLocator_loop s h s.size 0 (by omega)
  unfold place_IsLocator.f
  rcases h.1 with c | c | c
  · exact Ev.pos (by omega) hl
  · exact Ev.neg (by omega) (Ev.pos (by omega) hl)
  · exact Ev.neg (by omega) (Ev.neg (by omega) (Ev.pos (by omega) hl))
theorem area_step (s : ByteArray) (i : Nat) (h6 : i + 1 < 6) (he : i % 2 = 0) (hi : i + 1 < s.size) (v0 : 0 ≤ lvV s i ∧ lvV s i < 200) (v1 : 0 ≤ lvV s (i + 1) ∧ lvV s (i + 1) < 200) (n e : Int) (hn : -100000000 ≤ n ∧ n ≤ 100000000) (hE : -100000000 ≤ e ∧ e ≤ 100000000) (a b c d : Int) {r : Int × Int × Int × Int}
    (h : Ev (fun k => place_area.l0 k s ((i + 2 : Nat) : Int) (n + lvV s (i + 1) * lvH i) (e + lvV s i * lvW i) (lvM i) (lvF i) (lvW i) (lvH i)) r) : Ev (fun k => place_area.l0 k s (i : Int) n e a b c d) r := by
  obtain ⟨q1, q2⟩ := lv_rd i (by omega)
  have hlen : (lvL.length : Int) = 3 := rfl
  have hF : lvF (i + 1) = lvF i := by unfold lvF; rcases six i (by omega) with rfl | rfl | rfl | rfl | rfl | rfl <;> first | rfl | omega
  have hW : 0 ≤ lvW i ∧ lvW i ≤ 72000 := by unfold lvW; split <;> (try split) <;> omega
  have hH : 0 ≤ lvH i ∧ lvH i ≤ 36000 := by unfold lvH; split <;> (try split) <;> omega
  have w1 : wrap64 ((i : Int) + 1) = ((i + 1 : Nat) : Int) := wrap_succ (by omega)
  have w2 : wrap64 ((i : Int) + 2) = ((i + 2 : Nat) : Int) := by rw [wrap_id (by omega) (by omega)]; rfl
  have e0 : wrap64 ((bt s (i : Int) - lvF i) % 256) = lvV s i := by rw [wrap_id (by omega) (by omega)]; have hv := v0; unfold lvV at hv ⊢; omega
  have e1 : wrap64 ((bt s ((i + 1 : Nat) : Int) - lvF i) % 256) = lvV s (i + 1) := by rw [wrap_id (by omega) (by omega)]; have hv := v1; unfold lvV at hv ⊢; rw [hF] at hv ⊢; omega
  have m0 := mul_bd (lvV s i) (lvW i) 200 72000 (by omega) (by omega) (by omega) (by omega)
  have m1 := mul_bd (lvV s (i + 1)) (lvH i) 200 36000 (by omega) (by omega) (by omega) (by omega)
  refine Ev.step (fun k => ?_) h
  simp only [place_area.l0, levels_eq, Option.bind_some, q1, q2, hlen, w1, w2, e0, e1]
  rw [if_pos (by omega), if_pos (by omega), if_pos (by omega), if_pos (by omega), if_pos (by omega), if_pos (by omega), if_pos (by omega)]
  rw [wrap_id (e := lvV s i * lvW i) (by omega) (by omega), wrap_id (e := lvV s (i + 1) * lvH i) (by omega) (by omega), wrap_id (e := n + lvV s (i + 1) * lvH i) (by omega) (by omega), wrap_id (e := e + lvV s i * lvW i) (by omega) (by omega)]
theorem area_end (s : ByteArray) (i : Nat) (hi : s.size = i + 2) (h6 : i + 1 < 6) (n e : Int) (hn : -100000000 ≤ n ∧ n ≤ 100000000) (hE : -100000000 ≤ e ∧ e ≤ 100000000) :
    Ev (fun k => place_area.l0 k s ((i + 2 : Nat) : Int) n e (lvM i) (lvF i) (lvW i) (lvH i)) (n, e, n + lvH i, e + lvW i) := by
  have hW : 0 ≤ lvW i ∧ lvW i ≤ 72000 ∧ lvW i = 2 * lvH i := by unfold lvW lvH; split <;> (try split) <;> omega
  refine Ev.step (f := fun _ => some _) (fun k => ?_) (Ev.now _)
  simp only [place_area.l0]
  rw [if_neg (by omega), wrap_id (by omega) (by omega), wrap_id (by omega) (by omega)]
/-- The digits of a site, from the south-west. -/
def dig (N E : Int) : List Int := [97 + E / 72000, 97 + N / 36000, 48 + E % 72000 / 7200, 48 + N % 36000 / 3600, 97 + E % 72000 % 7200 / 300, 97 + N % 36000 % 3600 / 150]
def loc (N E : Int) (m : Nat) : ByteArray := bytesE ((dig N E).take m)
def inW (N E : Int) : Prop := (0 ≤ N ∧ N ≤ 647999) ∧ 0 ≤ E ∧ E ≤ 1295999
theorem dig_bd (N E : Int) (h : inW N E) : ∀ i : Nat, (hi : i < 6) → 0 ≤ (dig N E)[i]'(by simpa [dig] using hi) - lvF i ∧ (dig N E)[i]'(by simpa [dig] using hi) - lvF i < lvM i := by
  intro i hi
  unfold inW at h
  rcases six i hi with rfl | rfl | rfl | rfl | rfl | rfl <;> simp [dig, lvF, lvM] <;> omega
theorem loc_size (N E : Int) (m : Nat) (hm : m ≤ 6) : (loc N E m).size = m := by
  unfold loc
  rw [bytes_size]
  simp [dig]
  omega
theorem loc_V (N E : Int) (m : Nat) (h : inW N E) (hm : m ≤ 6) (i : Nat) (hi : i < m) : lvV (loc N E m) i = (dig N E)[i]'(by simp [dig]; omega) - lvF i := by
  have hb := dig_bd N E h i (by omega)
  have hl : i < ((dig N E).take m).length := by simp [dig]; omega
  have hF : 0 ≤ lvF i ∧ lvF i ≤ 97 := by unfold lvF; split <;> (try split) <;> omega
  have hM := lvM_bd i
  have hM2 : lvM i ≤ 24 := by unfold lvM; split <;> (try split) <;> omega
  have e : ((dig N E).take m)[i] = (dig N E)[i]'(by simp [dig]; omega) := by simp
  unfold lvV loc
  rw [bt_bytes _ i hl (by rw [e]; omega), e]
theorem loc_ok (N E : Int) (m : Nat) (h : inW N E) (hm : m = 2 ∨ m = 4 ∨ m = 6) : locOK (loc N E m) := by
  have hs := loc_size N E m (by omega)
  refine ⟨by omega, fun i hi => ?_⟩
  rw [hs] at hi
  rw [loc_V N E m h (by omega) i hi]
  exact dig_bd N E h i (by omega)
/-- How high areas are. -/
def hOf (m : Nat) : Int := if m = 2 then 36000 else if m = 4 then 3600 else 150
theorem area_ev (N E : Int) (m : Nat) (h : inW N E) (hm : m = 2 ∨ m = 4 ∨ m = 6) :
    Ev (fun k => place_area.f k (loc N E m)) (N - N % hOf m - 324000, E - E % (2 * hOf m) - 648000, N - N % hOf m - 324000 + hOf m, E - E % (2 * hOf m) - 648000 + 2 * hOf m) := by
  have hs := loc_size N E m (by omega)
  have hV := fun i hi => loc_V N E m h (by omega) i hi
  have hB := dig_bd N E h
  have H0 : lvH 0 = 36000 := rfl
  have H2 : lvH 2 = 3600 := rfl
  have H4 : lvH 4 = 150 := rfl
  have W0 : lvW 0 = 72000 := rfl
  have W2 : lvW 2 = 7200 := rfl
  have W4 : lvW 4 = 300 := rfl
  have k0 : lvV (loc N E m) 0 = E / 72000 := by rw [hV 0 (by omega)]; simp [dig, lvF] <;> omega
  have k1 : lvV (loc N E m) (0 + 1) = N / 36000 := by rw [hV 1 (by omega)]; simp [dig, lvF] <;> omega
  unfold inW at h
  unfold place_area.f
  generalize loc N E m = s at *
  rcases hm with rfl | rfl | rfl
  · refine area_step s 0 (by omega) rfl (by omega) (by omega) (by omega) _ _ (by omega) (by omega) _ _ _ _ ?_
    have := area_end s 0 hs (by omega) (-324000 + lvV s (0 + 1) * lvH 0) (-648000 + lvV s 0 * lvW 0) (by rw [k1, H0]; omega) (by rw [k0, W0]; omega)
    have e : (-324000 + lvV s (0 + 1) * lvH 0, -648000 + lvV s 0 * lvW 0, -324000 + lvV s (0 + 1) * lvH 0 + lvH 0, -648000 + lvV s 0 * lvW 0 + lvW 0) = (N - N % hOf 2 - 324000, E - E % (2 * hOf 2) - 648000, N - N % hOf 2 - 324000 + hOf 2, E - E % (2 * hOf 2) - 648000 + 2 * hOf 2) := by
      rw [k0, k1, H0, W0]
      have : hOf 2 = 36000 := rfl
      rw [this]
      refine Prod.ext (by simp only; omega) (Prod.ext (by simp only; omega) (Prod.ext (by simp only; omega) (by simp only; omega)))
    rw [← e]
    exact this
  · have k2 : lvV s 2 = E % 72000 / 7200 := by rw [hV 2 (by omega)]; simp [dig, lvF] <;> omega
    have k3 : lvV s (2 + 1) = N % 36000 / 3600 := by rw [hV 3 (by omega)]; simp [dig, lvF] <;> omega
    refine area_step s 0 (by omega) rfl (by omega) (by omega) (by omega) _ _ (by omega) (by omega) _ _ _ _ ?_
    refine area_step s 2 (by omega) rfl (by omega) (by omega) (by omega) _ _ (by rw [k1, H0]; omega) (by rw [k0, W0]; omega) _ _ _ _ ?_
    have := area_end s 2 hs (by omega) (-324000 + lvV s (0 + 1) * lvH 0 + lvV s (2 + 1) * lvH 2) (-648000 + lvV s 0 * lvW 0 + lvV s 2 * lvW 2) (by rw [k1, k3, H0, H2]; omega) (by rw [k0, k2, W0, W2]; omega)
    have e : (-324000 + lvV s (0 + 1) * lvH 0 + lvV s (2 + 1) * lvH 2, -648000 + lvV s 0 * lvW 0 + lvV s 2 * lvW 2, -324000 + lvV s (0 + 1) * lvH 0 + lvV s (2 + 1) * lvH 2 + lvH 2, -648000 + lvV s 0 * lvW 0 + lvV s 2 * lvW 2 + lvW 2) = (N - N % hOf 4 - 324000, E - E % (2 * hOf 4) - 648000, N - N % hOf 4 - 324000 + hOf 4, E - E % (2 * hOf 4) - 648000 + 2 * hOf 4) := by
      rw [k0, k1, k2, k3, H0, W0, H2, W2]
      have : hOf 4 = 3600 := rfl
      rw [this]
      refine Prod.ext (by simp only; omega) (Prod.ext (by simp only; omega) (Prod.ext (by simp only; omega) (by simp only; omega)))
    rw [← e]
    exact this
  · have k2 : lvV s 2 = E % 72000 / 7200 := by rw [hV 2 (by omega)]; simp [dig, lvF] <;> omega
    have k3 : lvV s (2 + 1) = N % 36000 / 3600 := by rw [hV 3 (by omega)]; simp [dig, lvF] <;> omega
    have k4 : lvV s 4 = E % 72000 % 7200 / 300 := by rw [hV 4 (by omega)]; simp [dig, lvF] <;> omega
    have k5 : lvV s (4 + 1) = N % 36000 % 3600 / 150 := by rw [hV 5 (by omega)]; simp [dig, lvF] <;> omega
    refine area_step s 0 (by omega) rfl (by omega) (by omega) (by omega) _ _ (by omega) (by omega) _ _ _ _ ?_
    refine area_step s 2 (by omega) rfl (by omega) (by omega) (by omega) _ _ (by rw [k1, H0]; omega) (by rw [k0, W0]; omega) _ _ _ _ ?_
    refine area_step s 4 (by omega) rfl (by omega) (by omega) (by omega) _ _ (by rw [k1, k3, H0, H2]; omega) (by rw [k0, k2, W0, W2]; omega) _ _ _ _ ?_
    have := area_end s 4 hs (by omega) (-324000 + lvV s (0 + 1) * lvH 0 + lvV s (2 + 1) * lvH 2 + lvV s (4 + 1) * lvH 4) (-648000 + lvV s 0 * lvW 0 + lvV s 2 * lvW 2 + lvV s 4 * lvW 4) (by rw [k1, k3, k5, H0, H2, H4]; omega) (by rw [k0, k2, k4, W0, W2, W4]; omega)
    have e : (-324000 + lvV s (0 + 1) * lvH 0 + lvV s (2 + 1) * lvH 2 + lvV s (4 + 1) * lvH 4, -648000 + lvV s 0 * lvW 0 + lvV s 2 * lvW 2 + lvV s 4 * lvW 4, -324000 + lvV s (0 + 1) * lvH 0 + lvV s (2 + 1) * lvH 2 + lvV s (4 + 1) * lvH 4 + lvH 4, -648000 + lvV s 0 * lvW 0 + lvV s 2 * lvW 2 + lvV s 4 * lvW 4 + lvW 4) = (N - N % hOf 6 - 324000, E - E % (2 * hOf 6) - 648000, N - N % hOf 6 - 324000 + hOf 6, E - E % (2 * hOf 6) - 648000 + 2 * hOf 6) := by
      rw [k0, k1, k2, k3, k4, k5, H0, W0, H2, W2, H4, W4]
      have : hOf 6 = 150 := rfl
      rw [this]
      refine Prod.ext (by simp only; omega) (Prod.ext (by simp only; omega) (Prod.ext (by simp only; omega) (by simp only; omega)))
    rw [← e]
    exact this
end Go.EV.Pure
namespace Go.EV.Pure
open Go Go.EV Go.RowKit
set_option linter.unusedSimpArgs false
theorem locator_step (q j : Nat) (hq : q ≤ 3) (hj : j < q) (x5 x6 : Int) (h5 : 0 ≤ x5 ∧ x5 / lvW (2 * j) < lvM (2 * j)) (h6 : 0 ≤ x6 ∧ x6 / lvH (2 * j) < lvM (2 * j)) (o : List Int) (ho : o.length ≤ 100) {v : ByteArray}
    (h : Ev (fun k => place_locator.l0 k (x5 % lvW (2 * j)) (x6 % lvH (2 * j)) (lvL.take q) (q : Int) ((j + 1 : Nat) : Int) (o ++ [lvF (2 * j) + x5 / lvW (2 * j), lvF (2 * j) + x6 / lvH (2 * j)])) v) :
    Ev (fun k => place_locator.l0 k x5 x6 (lvL.take q) (q : Int) (j : Int) o) v := by
  have hlen : ((lvL.take q).length : Int) = q := by simp [lvL]; omega
  have hr : rdE e_IIII (lvL.take q) (j : Int) = (lvM (2 * j), lvF (2 * j), lvW (2 * j), lvH (2 * j)) := by
    rw [rdE_get e_IIII _ j (by omega), List.getElem_take]
    rcases (by omega : j = 0 ∨ j = 1 ∨ j = 2) with rfl | rfl | rfl <;> rfl
  have hW : 0 < lvW (2 * j) ∧ 0 < lvH (2 * j) := by constructor <;> (first | unfold lvW | unfold lvH) <;> split <;> (try split) <;> omega
  have hF : 0 ≤ lvF (2 * j) ∧ lvF (2 * j) ≤ 97 := by unfold lvF; split <;> (try split) <;> omega
  have hM : lvM (2 * j) ≤ 24 := by unfold lvM; split <;> (try split) <;> omega
  have n5 := Int.ediv_nonneg h5.1 (show 0 ≤ lvW (2 * j) by omega)
  have n6 := Int.ediv_nonneg h6.1 (show 0 ≤ lvH (2 * j) by omega)
  refine Ev.step (fun k => ?_) h
  simp only [place_locator.l0, hr, tdiv_pos h5.1, tdiv_pos h6.1, tmod_pos h5.1, tmod_pos h6.1]
  generalize x5 / lvW (2 * j) = a at *
  generalize x6 / lvH (2 * j) = b at *
  rw [if_pos (by omega), if_pos (by omega), if_pos (by omega), if_neg (by omega), if_neg (by omega), if_pos (by simp; omega), if_neg (by omega), if_neg (by omega), wrap_id (e := a) (by omega) (by omega), wrap_id (e := b) (by omega) (by omega), wrap_succ (by omega),
    show (lvF (2 * j) + a % 256) % 256 = lvF (2 * j) + a by omega, show (lvF (2 * j) + b % 256) % 256 = lvF (2 * j) + b by omega]
theorem locator_end (q : Nat) (hq : q ≤ 3) (x5 x6 : Int) (o : List Int) : Ev (fun k => place_locator.l0 k x5 x6 (lvL.take q) (q : Int) (q : Int) o) (bytesE o) := by
  refine Ev.step (f := fun _ => some _) (fun k => ?_) (Ev.now _)
  simp only [place_locator.l0]
  rw [if_neg (by omega)]
theorem locator_ev (n e : Int) (hs : Right n e) (m : Nat) (hm : m = 2 ∨ m = 4 ∨ m = 6) : Ev (fun k => place_locator.f k n e (m : Int)) (loc (mn (n + 324000) 647999) (e + 648000) m) := by
  unfold Right at hs
  unfold place_locator.f
  have hN : 0 ≤ mn (n + 324000) 647999 ∧ mn (n + 324000) 647999 ≤ 647999 := by rw [mn_eq]; split <;> omega
  have ht : wrap64 (Int.tdiv (m : Int) 2) = ((m / 2 : Nat) : Int) := by rw [tdiv_pos (by omega), wrap_id (by omega) (by omega)]; omega
  simp only [levels_eq, Option.bind_some, ht, Int.toNat_natCast, wrap_id (e := n + 324000) (by omega) (by omega), wrap_id (e := e + 648000) (by omega) (by omega)]
  have hl : (lvL.length : Int) = 3 := rfl
  have hlen : ∀ q : Nat, q ≤ 3 → ((lvL.take q).length : Int) = q := fun q hq => by simp [lvL]; omega
  generalize mn (n + 324000) 647999 = N at *
  generalize hE : e + 648000 = E at *
  refine Ev.pos (by omega) (Ev.pos (by omega) ?_)
  simp only [hlen (m / 2) (by omega)]
  have W0 : lvW (2 * 0) = 72000 := rfl
  have W1 : lvW (2 * 1) = 7200 := rfl
  have W2 : lvW (2 * 2) = 300 := rfl
  have H0 : lvH (2 * 0) = 36000 := rfl
  have H1 : lvH (2 * 1) = 3600 := rfl
  have H2 : lvH (2 * 2) = 150 := rfl
  have M0 : lvM (2 * 0) = 18 := rfl
  have M1 : lvM (2 * 1) = 10 := rfl
  have M2 : lvM (2 * 2) = 24 := rfl
  rcases hm with rfl | rfl | rfl
  · refine locator_step 1 0 (by omega) (by omega) E N ?_ ?_ [] (by simp) ?_
    · rw [W0, M0]; omega
    · rw [H0, M0]; omega
    exact locator_end 1 (by omega) _ _ _
  · refine locator_step 2 0 (by omega) (by omega) E N ?_ ?_ [] (by simp) ?_
    · rw [W0, M0]; omega
    · rw [H0, M0]; omega
    refine locator_step 2 1 (by omega) (by omega) _ _ ?_ ?_ _ (by simp) ?_
    · rw [W0, W1, M1]; omega
    · rw [H0, H1, M1]; omega
    exact locator_end 2 (by omega) _ _ _
  · refine locator_step 3 0 (by omega) (by omega) E N ?_ ?_ [] (by simp) ?_
    · rw [W0, M0]; omega
    · rw [H0, M0]; omega
    refine locator_step 3 1 (by omega) (by omega) _ _ ?_ ?_ _ (by simp) ?_
    · rw [W0, W1, M1]; omega
    · rw [H0, H1, M1]; omega
    refine locator_step 3 2 (by omega) (by omega) _ _ ?_ ?_ _ (by simp) ?_
    · rw [W0, W1, W2, M2]; omega
    · rw [H0, H1, H2, M2]; omega
    exact locator_end 3 (by omega) _ _ _
theorem Locator_ev (n e : Int) (hs : Right n e) (m : Nat) (hm : m = 2 ∨ m = 4 ∨ m = 6) : Ev (fun k => place_Locator.f k n e (m : Int)) (loc (mn (n + 324000) 647999) (e + 648000) m, 0) := by
  have h := locator_ev n e hs m hm
  have hb : Ev (fun k => (place_locator.f k n e (m : Int)).bind fun r => Option.some (r, (0 : Int))) (loc (mn (n + 324000) 647999) (e + 648000) m, 0) := Ev.bind h (Ev.now _)
  unfold place_Locator.f
  simp only [CheckSite_eq, Option.bind_some]
  unfold Right at hs
  refine Ev.pos (if_pos hs) ?_
  rcases hm with rfl | rfl | rfl
  · exact Ev.pos (by omega) hb
  · exact Ev.neg (by omega) (Ev.pos (by omega) hb)
  · exact Ev.neg (by omega) (Ev.neg (by omega) (Ev.pos (by omega) hb))
theorem hOf_bd (m : Nat) : 150 ≤ hOf m ∧ hOf m ≤ 36000 := by unfold hOf; split <;> (try split) <;> omega
/-- The middle of a locator has the same digits. -/
theorem loc_mid (N E : Int) (m : Nat) (h : inW N E) (hm : m = 2 ∨ m = 4 ∨ m = 6) : loc (N - N % hOf m + hOf m / 2) (E - E % (2 * hOf m) + hOf m) m = loc N E m ∧ inW (N - N % hOf m + hOf m / 2) (E - E % (2 * hOf m) + hOf m) := by
  unfold inW at *
  rcases hm with rfl | rfl | rfl
  · have : hOf 2 = 36000 := rfl
    rw [this]
    refine ⟨?_, by omega⟩
    unfold loc dig
    simp only [List.take_succ_cons, List.take_zero]
    congr 1
    refine List.cons_eq_cons.2 ⟨by omega, List.cons_eq_cons.2 ⟨by omega, rfl⟩⟩
  · have : hOf 4 = 3600 := rfl
    rw [this]
    refine ⟨?_, by omega⟩
    unfold loc dig
    simp only [List.take_succ_cons, List.take_zero]
    congr 1
    refine List.cons_eq_cons.2 ⟨by omega, List.cons_eq_cons.2 ⟨by omega, List.cons_eq_cons.2 ⟨by omega, List.cons_eq_cons.2 ⟨by omega, rfl⟩⟩⟩⟩
  · have : hOf 6 = 150 := rfl
    rw [this]
    refine ⟨?_, by omega⟩
    unfold loc dig
    simp only [List.take_succ_cons, List.take_zero]
    congr 1
    refine List.cons_eq_cons.2 ⟨by omega, List.cons_eq_cons.2 ⟨by omega, List.cons_eq_cons.2 ⟨by omega, List.cons_eq_cons.2 ⟨by omega, List.cons_eq_cons.2 ⟨by omega, List.cons_eq_cons.2 ⟨by omega, rfl⟩⟩⟩⟩⟩⟩
end Go.EV.Pure
namespace Go.EV.Pure
open Go Go.EV Go.RowKit
set_option linter.unusedSimpArgs false
/-! Locators: any strings of ASCII. -/
theorem bt_bd (s : ByteArray) (i : Int) : 0 ≤ bt s i ∧ bt s i < 256 := by
  unfold bt
  split
  · rename_i h
    have := (s[i.toNat]'h).toNat_lt
    omega
  · omega
theorem lvF_bd (i : Nat) : 48 ≤ lvF i ∧ lvF i ≤ 97 := by unfold lvF; split <;> (try split) <;> omega
theorem IsLocator_run (s : ByteArray) (h6 : s.size ≤ 6) (d : Nat) : ∀ i : Nat, i + d = s.size → (∀ j < i, 0 ≤ lvV s j ∧ lvV s j < lvM j) → ∃ b : Bool, (b = true ↔ ∀ j < s.size, 0 ≤ lvV s j ∧ lvV s j < lvM j) ∧ Ev (fun k => place_IsLocator.l0 k s (i : Int)) b := by
  induction d with
  | zero =>
    intro i hi hj
    refine ⟨true, ⟨fun _ => by rw [← show i = s.size by omega]; exact hj, fun _ => rfl⟩, Ev.step (f := fun _ => some _) (fun k => ?_) (Ev.now _)⟩
    simp only [place_IsLocator.l0]
    rw [if_neg (by omega)]
  | succ d ih =>
    intro i hi hj
    obtain ⟨q1, q2⟩ := lv_rd i (by omega)
    have hM := lvM_bd i
    have hF := lvF_bd i
    have hb := bt_bd s (i : Int)
    have hlen : (lvL.length : Int) = 3 := rfl
    have hv : lvV s i = bt s (i : Int) - lvF i := rfl
    by_cases c : bt s (i : Int) < lvF i
    · refine ⟨false, ⟨fun h => (by cases h), fun h => (by have := h i (by omega); omega)⟩, Ev.succ ?_⟩
      simp only [place_IsLocator.l0, levels_eq, Option.bind_some, q1, q2, hlen]
      exact Ev.pos (by omega) (Ev.pos (by omega) (Ev.pos (by omega) (Ev.pos (by omega) (Ev.pos (by omega) (Ev.pos c (Ev.now _))))))
    · have e0 : (bt s (i : Int) - lvF i) % 256 = bt s (i : Int) - lvF i := by omega
      by_cases c2 : bt s (i : Int) - lvF i ≥ lvM i
      · refine ⟨false, ⟨fun h => (by cases h), fun h => (by have := h i (by omega); omega)⟩, Ev.succ ?_⟩
        simp only [place_IsLocator.l0, levels_eq, Option.bind_some, q1, q2, hlen, e0, wrap_id (e := bt s (i : Int) - lvF i) (by omega) (by omega)]
        exact Ev.pos (by omega) (Ev.pos (by omega) (Ev.pos (by omega) (Ev.pos (by omega) (Ev.pos (by omega) (Ev.neg c (Ev.pos (by omega) (Ev.pos (by omega) (Ev.pos c2 (Ev.now _)))))))))
      · obtain ⟨b, hb1, hb2⟩ := ih (i + 1) (by omega) (fun j hj2 => by
          rcases Nat.lt_or_ge j i with h | h
          · exact hj j h
          · obtain rfl : j = i := by omega
            omega)
        refine ⟨b, hb1, Ev.succ ?_⟩
        simp only [place_IsLocator.l0, levels_eq, Option.bind_some, q1, q2, hlen, e0, wrap_id (e := bt s (i : Int) - lvF i) (by omega) (by omega), wrap_succ (show i ≤ 1000000000000000 by omega)]
        exact Ev.pos (by omega) (Ev.pos (by omega) (Ev.pos (by omega) (Ev.pos (by omega) (Ev.pos (by omega) (Ev.neg c (Ev.pos (by omega) (Ev.pos (by omega) (Ev.neg c2 hb2))))))))
instance (s : ByteArray) : Decidable (locOK s) := by unfold locOK; infer_instance
theorem IsLocator_any (s : ByteArray) : Ev (fun k => place_IsLocator.f k s) (decide (locOK s)) := by
  by_cases c : s.size = 2 ∨ s.size = 4 ∨ s.size = 6
  · obtain ⟨b, h1, h2⟩ := IsLocator_run s (by omega) s.size 0 (by omega) (fun j h => by omega)
    have e : decide (locOK s) = b := by
      by_cases hb : b = true
      · rw [hb]; simp only [decide_eq_true_eq]; exact ⟨c, h1.1 hb⟩
      · have : ¬ locOK s := fun h => hb (h1.2 h.2)
        simp [this, hb]
    rw [e]
    unfold place_IsLocator.f
    rcases c with c | c | c
    · exact Ev.pos (by omega) h2
    · exact Ev.neg (by omega) (Ev.pos (by omega) h2)
    · exact Ev.neg (by omega) (Ev.neg (by omega) (Ev.pos (by omega) h2))
  · have : ¬ locOK s := fun h => c h.1
    simp only [this, decide_false]
    unfold place_IsLocator.f
    exact Ev.neg (by omega) (Ev.neg (by omega) (Ev.neg (by omega) (Ev.now _)))
/-! The reference. -/
def limS : ByteArray := ⟨#[114, 114, 57, 57, 120, 120]⟩
theorem lim_at (i : Nat) (h : i < 6) : bt limS (i : Int) = lvF i + lvM i - 1 := by
  rcases six i h with rfl | rfl | rfl | rfl | rfl | rfl <;> rfl
theorem lim_low (i : Nat) (h : i < 6) : (bt limS (i : Int) = 57 → lvF i = 48) ∧ (¬ bt limS (i : Int) = 57 → lvF i = 97) := by
  rcases six i h with rfl | rfl | rfl | rfl | rfl | rfl <;> decide
theorem dec_asc {s : ByteArray} (ha : asciiT s = true) (j : Nat) (h : j < s.size) : (Utf8.decode s j).2 = 1 := by
  have hl : j < s.data.toList.length := by rw [Array.length_toList]; exact h
  have hb : (s[j]'h).toNat < 128 := by
    unfold asciiT at ha
    rw [List.all_eq_true] at ha
    have := ha _ (List.getElem_mem hl)
    simp only [decide_eq_true_eq, Array.getElem_toList] at this
    exact this
  rw [decode_ascii s j h hb]
theorem LocatorRight_run (s : ByteArray) (ha : asciiT s = true) (h6 : s.size ≤ 6) (d : Nat) : ∀ i : Nat, i + d = s.size → (∀ j < i, 0 ≤ lvV s j ∧ lvV s j < lvM j) → ∃ b : Bool, (b = true ↔ ∀ j < s.size, 0 ≤ lvV s j ∧ lvV s j < lvM j) ∧ Ev (fun k => pileref1_LocatorRight.l0 k s i) b := by
  have hlim : (⟨#[114, 114, 57, 57, 120, 120]⟩ : ByteArray) = limS := rfl
  have hls : (limS.size : Int) = 6 := rfl
  induction d with
  | zero =>
    intro i hi hj
    refine ⟨true, ⟨fun _ => by rw [← show i = s.size by omega]; exact hj, fun _ => rfl⟩, Ev.step (f := fun _ => some _) (fun k => ?_) (Ev.now _)⟩
    simp only [pileref1_LocatorRight.l0]
    rw [if_neg (by omega)]
  | succ d ih =>
    intro i hi hj
    have hM := lvM_bd i
    have hF := lvF_bd i
    have hb := bt_bd s (i : Int)
    have hv : lvV s i = bt s (i : Int) - lvF i := rfl
    have hd := dec_asc ha i (by omega)
    have ha1 := lim_at i (by omega)
    have ha2 := lim_low i (by omega)
    have key : ∃ b : Bool, (b = true ↔ ∀ j < s.size, 0 ≤ lvV s j ∧ lvV s j < lvM j) ∧ Ev (fun k => pileref1_LocatorRight.j10 k s i (lvF i)) b := by
      by_cases c : bt s (i : Int) < lvF i
      · refine ⟨false, ⟨fun h => (by cases h), fun h => (by have := h i (by omega); omega)⟩, Ev.succ ?_⟩
        simp only [pileref1_LocatorRight.j10, hlim]
        exact Ev.pos (by omega) (Ev.pos (by omega) (Ev.pos c (Ev.now _)))
      · by_cases c2 : bt s (i : Int) > bt limS (i : Int)
        · refine ⟨false, ⟨fun h => (by cases h), fun h => (by have := h i (by omega); omega)⟩, Ev.succ ?_⟩
          simp only [pileref1_LocatorRight.j10, hlim]
          exact Ev.pos (by omega) (Ev.pos (by omega) (Ev.neg c (Ev.pos (by omega) (Ev.pos (by omega) (Ev.pos c2 (Ev.now _))))))
        · obtain ⟨b, hb1, hb2⟩ := ih (i + 1) (by omega) (fun j hj2 => by
            rcases Nat.lt_or_ge j i with h | h
            · exact hj j h
            · obtain rfl : j = i := by omega
              omega)
          refine ⟨b, hb1, Ev.succ ?_⟩
          simp only [pileref1_LocatorRight.j10, hlim, hd]
          exact Ev.pos (by omega) (Ev.pos (by omega) (Ev.neg c (Ev.pos (by omega) (Ev.pos (by omega) (Ev.neg c2 hb2)))))
    obtain ⟨b, hb1, hb2⟩ := key
    refine ⟨b, hb1, Ev.succ ?_⟩
    simp only [pileref1_LocatorRight.l0, hlim, hls]
    refine Ev.pos (by omega) (Ev.pos (by omega) (Ev.pos (by omega) ?_))
    by_cases c : bt limS (i : Int) = 57
    · have := ha2.1 c
      rw [this] at hb2
      exact Ev.pos c hb2
    · have := ha2.2 c
      rw [this] at hb2
      exact Ev.neg c hb2
theorem LocatorRight_any (s : ByteArray) (ha : asciiT s = true) : Ev (fun k => pileref1_LocatorRight.f k s) (decide (locOK s)) := by
  by_cases c : s.size = 2 ∨ s.size = 4 ∨ s.size = 6
  · obtain ⟨b, h1, h2⟩ := LocatorRight_run s ha (by omega) s.size 0 (by omega) (fun j h => by omega)
    have e : decide (locOK s) = b := by
      by_cases hb : b = true
      · rw [hb]; simp only [decide_eq_true_eq]; exact ⟨c, h1.1 hb⟩
      · have : ¬ locOK s := fun h => hb (h1.2 h.2)
        simp [this, hb]
    rw [e]
    unfold pileref1_LocatorRight.f
    rcases c with c | c | c
    · exact Ev.pos (by omega) h2
    · exact Ev.neg (by omega) (Ev.pos (by omega) h2)
    · exact Ev.neg (by omega) (Ev.neg (by omega) (Ev.pos (by omega) h2))
  · have : ¬ locOK s := fun h => c h.1
    simp only [this, decide_false]
    unfold pileref1_LocatorRight.f
    exact Ev.neg (by omega) (Ev.neg (by omega) (Ev.neg (by omega) (Ev.now _)))
theorem LocatorFault_any (s : ByteArray) (ha : asciiT s = true) : Ev (fun k => pileref1_LocatorFault.f k s) (if locOK s then 0 else 3) := by
  unfold pileref1_LocatorFault.f
  refine Ev.bind (LocatorRight_any s ha) ?_
  by_cases c : locOK s
  · rw [if_pos c]; exact Ev.pos (by simpa using c) (Ev.now _)
  · rw [if_neg c]; exact Ev.neg (by simpa using c) (Ev.now _)
theorem bt_ext {a b : ByteArray} (hs : a.size = b.size) (h : ∀ i : Nat, i < a.size → bt a (i : Int) = bt b (i : Int)) : a = b := by
  apply ByteArray.ext
  apply Array.ext
  · exact hs
  · intro i h1 h2
    have := h i h1
    unfold bt at this
    rw [dif_pos (by simpa using h1), dif_pos (by simpa using h2)] at this
    have e : (a[i]'h1).toNat = (b[i]'h2).toNat := Int.ofNat_inj.1 (by simpa using this)
    exact UInt8.toNat_inj.1 e
theorem loc_of (s : ByteArray) (h : locOK s) : ∃ N E, inW N E ∧ s = loc N E s.size ∧ (s.size = 2 ∨ s.size = 4 ∨ s.size = 6) := by
  obtain ⟨hs, hv⟩ := h
  have fin : ∀ N E, inW N E → (∀ i (hi : i < s.size), lvV s i = (dig N E)[i]'(by simp [dig]; omega) - lvF i) → s = loc N E s.size := fun N E hw hd => by
    refine bt_ext (loc_size N E _ (by omega)).symm fun i hi => ?_
    have e1 := hd i hi
    have e2 := loc_V N E s.size hw (by omega) i hi
    unfold lvV at e1 e2
    omega
  have m0 : lvM 0 = 18 := rfl
  have m1 : lvM 1 = 18 := rfl
  have m2 : lvM 2 = 10 := rfl
  have m3 : lvM 3 = 10 := rfl
  have m4 : lvM 4 = 24 := rfl
  have m5 : lvM 5 = 24 := rfl
  have v0 := hv 0 (by omega)
  have v1 := hv 1 (by omega)
  rw [m0] at v0
  rw [m1] at v1
  rcases hs with c | c | c
  · refine ⟨lvV s 1 * 36000, lvV s 0 * 72000, by unfold inW; omega, fin _ _ (by unfold inW; omega) fun i hi => ?_, .inl c⟩
    rcases (by omega : i = 0 ∨ i = 1) with rfl | rfl <;> simp [dig, lvF] <;> omega
  · have v2 := hv 2 (by omega)
    have v3 := hv 3 (by omega)
    rw [m2] at v2
    rw [m3] at v3
    refine ⟨lvV s 1 * 36000 + lvV s 3 * 3600, lvV s 0 * 72000 + lvV s 2 * 7200, by unfold inW; omega, fin _ _ (by unfold inW; omega) fun i hi => ?_, .inr (.inl c)⟩
    rcases (by omega : i = 0 ∨ i = 1 ∨ i = 2 ∨ i = 3) with rfl | rfl | rfl | rfl <;> simp [dig, lvF] <;> omega
  · have v2 := hv 2 (by omega)
    have v3 := hv 3 (by omega)
    have v4 := hv 4 (by omega)
    have v5 := hv 5 (by omega)
    rw [m2] at v2
    rw [m3] at v3
    rw [m4] at v4
    rw [m5] at v5
    refine ⟨lvV s 1 * 36000 + lvV s 3 * 3600 + lvV s 5 * 150, lvV s 0 * 72000 + lvV s 2 * 7200 + lvV s 4 * 300, by unfold inW; omega, fin _ _ (by unfold inW; omega) fun i hi => ?_, .inr (.inr c)⟩
    rcases six i (by omega) with rfl | rfl | rfl | rfl | rfl | rfl <;> simp [dig, lvF] <;> omega
/-! Locators that are drawn. -/
theorem mk_bytes (x : Int) : mk [UInt8.ofNat x.toNat] = bytesE [x] := by
  unfold bytesE
  apply ByteArray.ext
  simp [strOfNums, mk]
theorem encA (x : Int) (h0 : 0 ≤ x) (h1 : x < 128) : Utf8.encode (IntKind.i32.wrap x) = bytesE [x] := by
  have hb : (UInt8.ofNat x.toNat).toNat = x.toNat := by rw [UInt8.toNat_ofNat']; omega
  have := enc_ascii (UInt8.ofNat x.toNat) (by omega)
  rw [hb, show ((x.toNat : Nat) : Int) = x by omega] at this
  rw [this, mk_bytes]
theorem bytes_app (a b : List Int) : bytesE a ++ bytesE b = bytesE (a ++ b) := by
  unfold bytesE
  apply ByteArray.ext
  simp [strOfNums, ByteArray.data_append]
theorem bytes_asc (l : List Int) (h : ∀ x ∈ l, 0 ≤ x ∧ x < 128) : asciiT (bytesE l) = true := by
  unfold asciiT bytesE strOfNums
  rw [List.all_eq_true]
  intro b hb
  simp only [List.mem_map] at hb
  obtain ⟨x, hx, rfl⟩ := hb
  have := h x hx
  rw [UInt8.toNat_ofNat']
  simp
  omega
theorem loc_asc (N E : Int) (m : Nat) (h : inW N E) : asciiT (loc N E m) = true := by
  refine bytes_asc _ fun x hx => ?_
  have hx := List.mem_of_mem_take hx
  unfold inW at h
  simp only [dig, List.mem_cons, List.not_mem_nil, or_false] at hx
  omega
theorem LocatorFor_ev (n e : Int) (hs : Right n e) (m : Nat) (hm : m = 2 ∨ m = 4 ∨ m = 6) : Ev (fun k => pileref1_LocatorFor.f k n e (m : Int)) (loc (mn (n + 324000) 647999) (e + 648000) m) := by
  unfold Right at hs
  obtain ⟨N, hN⟩ : ∃ N, N = mn (n + 324000) 647999 := ⟨_, rfl⟩
  obtain ⟨E, hE⟩ : ∃ E, E = e + 648000 := ⟨_, rfl⟩
  have hNb : 0 ≤ N ∧ N ≤ 647999 := by rw [hN, mn_eq]; split <;> omega
  have hEb : 0 ≤ E ∧ E ≤ 1295999 := by omega
  have one : ∀ (q b : Int), 0 ≤ q → q ≤ 1000000 → 0 < b → b ≤ 24 → pileref1_LocatorFor_1.f q b = some (bytesE [97 + q % b]) := fun q b h0 h1 h2 h3 => by
    have hm0 := Int.emod_nonneg q (show b ≠ 0 by omega)
    have hm1 := Int.emod_lt_of_pos q h2
    unfold pileref1_LocatorFor_1.f
    rw [if_neg (by omega), tmod_pos h0, wrap_id (by omega) (by omega), encA _ (by omega) (by omega)]
  have w1 : wrap64 (n + 324000) = n + 324000 := wrap_id (by omega) (by omega)
  have w2 : wrap64 (e + 648000) = E := by rw [wrap_id (by omega) (by omega)]; omega
  have dv : ∀ (x c : Int), 0 ≤ x → x ≤ 1295999 → 1 ≤ c → wrap64 (Int.tdiv x c) = x / c := fun x c h0 h1 h2 => by
    have q0 : 0 ≤ x / c := Int.ediv_nonneg h0 (by omega)
    have q1 : x / c ≤ x := Int.ediv_le_self _ h0
    rw [tdiv_pos h0, wrap_id (by omega) (by omega)]
  have o1 := one (E / 72000) 18 (by omega) (by omega) (by omega) (by omega)
  have o2 := one (N / 36000) 18 (by omega) (by omega) (by omega) (by omega)
  have o3 := one (E / 300) 24 (by omega) (by omega) (by omega) (by omega)
  have o4 := one (N / 150) 24 (by omega) (by omega) (by omega) (by omega)
  have d1 : Utf8.encode (IntKind.i32.wrap (wrap64 (48 + (Int.tmod (E / 7200) 10)))) = bytesE [48 + E / 7200 % 10] := by
    rw [tmod_pos (by omega), wrap_id (by omega) (by omega), encA _ (by omega) (by omega)]
  have d2 : Utf8.encode (IntKind.i32.wrap (wrap64 (48 + (Int.tmod (N / 3600) 10)))) = bytesE [48 + N / 3600 % 10] := by
    rw [tmod_pos (by omega), wrap_id (by omega) (by omega), encA _ (by omega) (by omega)]
  have sz : ∀ l : List Int, l.length ≤ 10 → (bytesE l).size ≤ 10 := fun l h => by rw [bytes_size]; exact h
  have jE : ∀ s, Ev (fun k => pileref1_LocatorFor.j8 k s) s := fun s => Ev.from 1 fun k => rfl
  unfold pileref1_LocatorFor.f
  simp only [w1, w2, ← hN, dv E 72000 hEb.1 hEb.2 (by omega), dv N 36000 hNb.1 (by omega) (by omega), dv E 7200 hEb.1 hEb.2 (by omega), dv N 3600 hNb.1 (by omega) (by omega), o1, o2, d1, d2, Option.bind_some, bytes_app, List.cons_append, List.nil_append]
  have a1 : E / 72000 % 18 = E / 72000 := by omega
  have a2 : N / 36000 % 18 = N / 36000 := by omega
  have a3 : E / 7200 % 10 = E % 72000 / 7200 := by omega
  have a4 : N / 3600 % 10 = N % 36000 / 3600 := by omega
  have a5 : E / 300 % 24 = E % 72000 % 7200 / 300 := by omega
  have a6 : N / 150 % 24 = N % 36000 % 3600 / 150 := by omega
  rw [a1, a2, a3, a4, ← hE]
  rw [a5] at o3
  rw [a6] at o4
  refine Ev.pos (by rw [bytes_size, bytes_size]; simp) ?_
  have j6 : ∀ s : ByteArray, s.size ≤ 10 → Ev (fun k => pileref1_LocatorFor.j6 k n e (m : Int) s) (if m = 6 then s ++ bytesE [97 + E % 72000 % 7200 / 300, 97 + N % 36000 % 3600 / 150] else s) := fun s hsz => by
    refine Ev.succ ?_
    simp only [pileref1_LocatorFor.j6, w1, w2, ← hN, dv E 300 hEb.1 hEb.2 (by omega), dv N 150 hNb.1 (by omega) (by omega), o3, o4, Option.bind_some, bytes_app, List.cons_append, List.nil_append]
    by_cases c : m = 6
    · rw [if_pos c]
      exact Ev.pos (by omega) (Ev.pos (by rw [bytes_size, bytes_size]; simp) (Ev.pos (by rw [bytes_size]; simp; omega) (jE _)))
    · rw [if_neg c]
      exact Ev.neg (by omega) (jE _)
  rcases hm with rfl | rfl | rfl
  · refine Ev.neg (by omega) ?_
    have := j6 (bytesE [97 + E / 72000, 97 + N / 36000]) (sz _ (by simp))
    rw [if_neg (by omega)] at this
    exact this
  · refine Ev.pos (by omega) (Ev.pos (by rw [bytes_size, bytes_size]; simp) (Ev.pos (by rw [bytes_size, bytes_size]; simp) ?_))
    have := j6 (bytesE [97 + E / 72000, 97 + N / 36000, 48 + E % 72000 / 7200, 48 + N % 36000 / 3600]) (sz _ (by simp))
    rw [if_neg (by omega)] at this
    exact this
  · refine Ev.pos (by omega) (Ev.pos (by rw [bytes_size, bytes_size]; simp) (Ev.pos (by rw [bytes_size, bytes_size]; simp) ?_))
    have := j6 (bytesE [97 + E / 72000, 97 + N / 36000, 48 + E % 72000 / 7200, 48 + N % 36000 / 3600]) (sz _ (by simp))
    rw [if_pos rfl, bytes_app] at this
    exact this
theorem inW_of {n e : Int} (hs : Right n e) : inW (mn (n + 324000) 647999) (e + 648000) := by
  unfold Right at hs
  unfold inW
  rw [mn_eq]
  split <;> omega
theorem LocatorText_spec (l : List Int) (s : Int) (h0 : 0 ≤ s) (h1 : s ≤ 4611686018427350000) (hl : l.length ≤ 140737488351232) :
    ∃ t s', Ev (fun k => pilemake_Stream_LocatorText.f k l s) (t, l, s') ∧ GS 20 t ∧ s ≤ s' ∧ s' ≤ s + 130 := by
  obtain ⟨n, e, s1, e1, hr, a1, b1⟩ := RightSite_spec l s h0 (by omega) hl
  obtain ⟨m, e2, hm⟩ := Pick_spec l s1 [2, 4, 4, 6, 6] (by omega) (by omega) hl (by simp) (by simp)
  simp only [List.mem_cons, List.not_mem_nil, or_false] at hm
  obtain ⟨m, rfl⟩ : ∃ q : Nat, m = q := ⟨m.toNat, by omega⟩
  have e3 := LocatorFor_ev n e hr m (by omega)
  have hg : GS 6 (loc (mn (n + 324000) 647999) (e + 648000) m) := ⟨loc_asc _ _ _ (inW_of hr), by rw [loc_size _ _ _ (by omega)]; omega⟩
  obtain ⟨b, e4⟩ := Flip_spec l (s1 + 1) 12 (by omega) (by omega) (by omega) hl
  unfold pilemake_Stream_LocatorText.f
  by_cases c : b = true
  · obtain ⟨r, s5, e5, hr5, a5, b5⟩ := Changed_GS 6 l (s1 + 1 + 1) _ (⟨#[97, 114, 115, 120, 48, 57, 121]⟩ : ByteArray) (by omega) (by omega) hl hg (by omega) ⟨by decide, by decide⟩ (by decide)
    refine ⟨r, s5, Ev.bind e1 (Ev.bind e2 (Ev.bind e3 (Ev.bind e4 (Ev.pos c (Ev.bind e5 (Ev.from 1 fun k => rfl)))))), ?_, by omega, by omega⟩
    rcases hr5 with h | rfl
    · exact h.mono (by omega)
    · exact ⟨by decide, by decide⟩
  · exact ⟨_, s1 + 1 + 1, Ev.bind e1 (Ev.bind e2 (Ev.bind e3 (Ev.bind e4 (Ev.neg c (Ev.from 1 fun k => rfl))))), hg.mono (by omega), by omega, by omega⟩
theorem LocatorList_end (l : List Int) (hl : l.length ≤ 140737488351232) (o : List ByteArray) (ho : o.length ≤ 100) (hg : ∀ t ∈ o, GS 20 t) (s : Int) (h0 : 0 ≤ s) (h1 : s ≤ 4611686018427340000) (m : Int) :
    ∃ L s', Ev (fun k => pilemake_Stream_LocatorList.l0 k m m o l s) (L, l, s') ∧ (∀ t ∈ L, GS 20 t) ∧ L.length ≤ o.length + 1 ∧ s ≤ s' ∧ s' ≤ s + 200 := by
  obtain ⟨b, e1⟩ := Flip_spec l s 20 (by omega) (by omega) (by omega) hl
  by_cases c : b = true
  · obtain ⟨t, s2, e2, ht, a2, b2⟩ := LocatorText_spec l (s + 1) (by omega) (by omega) hl
    refine ⟨o ++ [t], s2, Ev.succ ?_, fun x hx => ?_, by simp, by omega, by omega⟩
    · simp only [pilemake_Stream_LocatorList.l0]
      exact Ev.neg (by omega) (Ev.bind e1 (Ev.pos c (Ev.bind e2 (Ev.pos (by omega) (Ev.from 1 fun k => rfl)))))
    · rcases List.mem_append.1 hx with h | h
      · exact hg x h
      · rw [List.mem_singleton] at h; rw [h]; exact ht
  · refine ⟨o, s + 1, Ev.succ ?_, hg, by omega, by omega, by omega⟩
    simp only [pilemake_Stream_LocatorList.l0]
    exact Ev.neg (by omega) (Ev.bind e1 (Ev.neg c (Ev.from 1 fun k => rfl)))
theorem LocatorList_run (l : List Int) (hl : l.length ≤ 140737488351232) (m : Int) (hm : m ≤ 50) (d : Nat) : ∀ (i : Int) (o : List ByteArray) (s : Int), 0 ≤ i → i + d = m → o.length ≤ i → (∀ t ∈ o, GS 20 t) → 0 ≤ s → s + 200 * d ≤ 4611686018427330000 →
    ∃ L s', Ev (fun k => pilemake_Stream_LocatorList.l0 k m i o l s) (L, l, s') ∧ (∀ t ∈ L, GS 20 t) ∧ L.length ≤ o.length + d + 1 ∧ s ≤ s' ∧ s' ≤ s + 200 * d + 200 := by
  induction d with
  | zero =>
    intro i o s hi him ho hg h0 h1
    obtain rfl : i = m := by omega
    obtain ⟨L, s', a, b, c, d, e⟩ := LocatorList_end l hl o (by omega) hg s h0 (by omega) i
    exact ⟨L, s', a, b, by omega, d, by omega⟩
  | succ d ih =>
    intro i o s hi him ho hg h0 h1
    obtain ⟨n, e, s1, e1, hr, a1, b1⟩ := RightSite_spec l s h0 (by omega) hl
    obtain ⟨q, e2, hq⟩ := Pick_spec l s1 [4, 4, 6, 6, 6, 2] (by omega) (by omega) hl (by simp) (by simp)
    simp only [List.mem_cons, List.not_mem_nil, or_false] at hq
    obtain ⟨q, rfl⟩ : ∃ x : Nat, q = x := ⟨q.toNat, by omega⟩
    have e3 := LocatorFor_ev n e hr q (by omega)
    have hgn : GS 6 (loc (mn (n + 324000) 647999) (e + 648000) q) := ⟨loc_asc _ _ _ (inW_of hr), by rw [loc_size _ _ _ (by omega)]; omega⟩
    obtain ⟨L, s', r1, r2, r3, r4, r5⟩ := ih (i + 1) (o ++ [loc (mn (n + 324000) 647999) (e + 648000) q]) (s1 + 1) (by omega) (by omega) (by simp; omega) (fun x hx => by
      rcases List.mem_append.1 hx with h | h
      · exact hg x h
      · rw [List.mem_singleton] at h; rw [h]; exact hgn.mono (by omega)) (by omega) (by omega)
    refine ⟨L, s', Ev.succ ?_, r2, by simp at r3; omega, by omega, by omega⟩
    simp only [pilemake_Stream_LocatorList.l0, wrap_id (e := i + 1) (by omega) (by omega)]
    exact Ev.pos (by omega) (Ev.bind e1 (Ev.bind e2 (Ev.bind e3 (Ev.pos (by omega) r1))))
theorem LocatorList_spec (l : List Int) (s : Int) (q : Int) (hq : 0 ≤ q ∧ q ≤ 20) (h0 : 0 ≤ s) (h1 : s ≤ 4611686018427300000) (hl : l.length ≤ 140737488351232) :
    ∃ L s', Ev (fun k => pilemake_Stream_LocatorList.f k l s q) (L, l, s') ∧ (∀ t ∈ L, GS 20 t) ∧ L.length ≤ 30 ∧ s ≤ s' ∧ s' ≤ s + 5000 := by
  obtain ⟨m, e1, m0, m1⟩ := Range_spec l s 0 q h0 (by omega) (by omega) (by omega) (by omega) hl
  obtain ⟨L, s', a, b, c, d, e⟩ := LocatorList_run l hl m (by omega) m.toNat 0 [] (s + 1) (by omega) (by omega) (by simp) (by simp) (by omega) (by omega)
  refine ⟨L, s', Ev.bind e1 a, b, ?_, by omega, by omega⟩
  simp at c
  omega
end Go.EV.Pure
namespace Go.EV.Pure
open Go Go.EV Go.RowKit
set_option linter.unusedSimpArgs false
set_option maxRecDepth 100000
/-! Sites that are sorted: the same sites. -/
theorem swap_perm {α : Type} : ∀ (i : Nat) (o : List α) (h : i + 1 < o.length), ((o.set (i + 1) o[i]).set i o[i + 1]).Perm o
  | 0, x :: y :: r, _ => List.Perm.swap x y r
  | i + 1, x :: r, h => by
    have := swap_perm i r (by simpa using h)
    simpa using List.Perm.cons x this
end Go.EV.Pure
namespace Go.EV.Pure
open Go Go.EV Go.RowKit
set_option linter.unusedSimpArgs false
set_option maxRecDepth 100000
/-! The neighbours of a locator. -/
/-- The southern and the western edge of a site's area. -/
def loN (N : Int) (m : Nat) : Int := N - N % hOf m - 324000
def loE (E : Int) (m : Nat) : Int := E - E % (2 * hOf m) - 648000
def okN (n : Int) : Prop := -324000 ≤ n ∧ n ≤ 323999
instance (n : Int) : Decidable (okN n) := inferInstanceAs (Decidable (_ ∧ _))
/-- One neighbour's edges, if there is one. -/
def cand (a b dn de : Int) : List (Int × Int) := if (dn ≠ 0 ∨ de ≠ 0) ∧ okN (a + dn) then [(a + dn, aroundV (b + de))] else []
def three (x : Int) (i : Nat) : Int := if i = 0 then -x else if i = 1 then 0 else x
theorem rd3 (x : Int) (i : Nat) (hi : i < 3) : rd [-x, 0, x] (i : Int) = three x i := by
  rcases (by omega : i = 0 ∨ i = 1 ∨ i = 2) with rfl | rfl | rfl <;> rfl
def hRow (a b W dn : Int) (j : Nat) : List (Int × Int) := ((List.range 3).drop j).flatMap fun i => cand a b dn (three W i)
def hAll (a b H W : Int) (i : Nat) : List (Int × Int) := ((List.range 3).drop i).flatMap fun i => hRow a b W (three H i) 0
theorem hRow_step (a b W dn : Int) (j : Nat) (hj : j < 3) : hRow a b W dn j = cand a b dn (three W j) ++ hRow a b W dn (j + 1) := by
  rcases (by omega : j = 0 ∨ j = 1 ∨ j = 2) with rfl | rfl | rfl <;> rfl
theorem hAll_step (a b H W : Int) (j : Nat) (hj : j < 3) : hAll a b H W j = hRow a b W (three H j) 0 ++ hAll a b H W (j + 1) := by
  rcases (by omega : j = 0 ∨ j = 1 ∨ j = 2) with rfl | rfl | rfl <;> rfl
theorem hRow_end (a b W dn : Int) : hRow a b W dn 3 = [] := rfl
theorem hAll_end (a b H W : Int) : hAll a b H W 3 = [] := rfl
theorem outN (x : Int) : kit_Outside.f x (-324000) 323999 = some (!decide (okN x)) := by
  unfold kit_Outside.f
  by_cases q : okN x
  · have q2 := q
    unfold okN at q2
    rw [if_neg (by omega), decide_eq_true q, decide_eq_false (show ¬ x > 323999 by omega)]
    rfl
  · have q2 := q
    unfold okN at q2
    rw [decide_eq_false q]
    by_cases c : x < -324000
    · rw [if_pos c]; rfl
    · rw [if_neg c, decide_eq_true (show x > 323999 by omega)]; rfl
theorem BesIn (s : ByteArray) (a b c d H W : Int) (hH : 0 < H ∧ H ≤ 36000) (hW : 0 < W ∧ W ≤ 72000) (ha : -324000 ≤ a ∧ a ≤ 324000) (hb : -648000 ≤ b ∧ b ≤ 648000) (i : Nat) (hi : i < 3) (F : List (Int × Int)) (hF : F.length ≤ 100) (v : List ByteArray × Int)
    (hv : Ev (fun k => place_Beside.l0 k s W [-H, 0, H] 3 ((i + 1 : Nat) : Int) a b c d F) v) (f : Nat) :
    ∀ (j : Nat) (o : List (Int × Int)), j + f = 3 → o ++ hRow a b W (three H i) j = F → Ev (fun k => place_Beside.l1 k s W [-H, 0, H] 3 (i : Int) a b c d (j : Int) o) v := by
  have w0 : wrap64 (0 - W) = -W := by rw [wrap_id (by omega) (by omega)]; omega
  have hl : ∀ x : Int, (([-x, 0, x] : List Int).length : Int) = 3 := fun x => rfl
  induction f with
  | zero =>
    intro j o hj ho
    have : j = 3 := by omega
    subst this
    have : o = F := by rwa [hRow_end, List.append_nil] at ho
    subst this
    refine Ev.succ ?_
    simp only [place_Beside.l1, w0, hl, wrap_succ (show i ≤ 1000000000000000 by omega)]
    exact Ev.neg (by omega) hv
  | succ f ih =>
    intro j o hj ho
    have hj3 : j < 3 := by omega
    rw [hRow_step _ _ _ _ _ hj3, ← List.append_assoc] at ho
    have hn := ih (j + 1) _ (by omega) ho
    have j15 : ∀ o2, o2 = o ++ cand a b (three H i) (three W j) → Ev (fun k => place_Beside.j15 k s W [-H, 0, H] 3 (i : Int) a b c d (j : Int) o2) v := fun o2 h2 => by
      subst h2
      refine Ev.succ ?_
      simp only [place_Beside.j15, wrap_succ (show j ≤ 1000000000000000 by omega)]
      exact hn
    have hol : o.length ≤ 100 := by rw [← ho] at hF; simp at hF; omega
    have b1 : -36000 ≤ three H i ∧ three H i ≤ 36000 := by unfold three; split <;> (try split) <;> omega
    have b2 : -72000 ≤ three W j ∧ three W j ≤ 72000 := by unfold three; split <;> (try split) <;> omega
    have hO := outN (a + three H i)
    refine Ev.succ ?_
    simp only [place_Beside.l1, w0, hl, rd3 W j hj3, rd3 H i hi, wrap_id (e := b + three W j) (by omega) (by omega), wrap_id (e := a + three H i) (by omega) (by omega), around_eq (b + three W j) (by omega) (by omega), Option.bind_some, hO]
    refine Ev.pos (by omega) (Ev.pos (by omega) (Ev.pos (by omega) ?_))
    have yes : (three H i ≠ 0 ∨ three W j ≠ 0) → Ev (fun k => if (!decide (okN (a + three H i))) = true then place_Beside.j15 k s W [-H, 0, H] 3 (i : Int) a b c d (j : Int) o else if o.length + 1 ≤ 549755813888 then place_Beside.j15 k s W [-H, 0, H] 3 (i : Int) a b c d (j : Int) (o ++ [(a + three H i, aroundV (b + three W j))]) else Option.none) v := fun hne => by
      by_cases q : okN (a + three H i)
      · exact Ev.neg (by simp [q]) (Ev.pos (by omega) (j15 _ (by unfold cand; rw [if_pos ⟨hne, q⟩])))
      · exact Ev.pos (by simp [q]) (j15 _ (by unfold cand; rw [if_neg fun h => q h.2, List.append_nil]))
    by_cases c1 : three H i = 0
    · refine Ev.pos c1 ?_
      by_cases c2 : three W j = 0
      · exact Ev.pos c2 (j15 _ (by unfold cand; rw [if_neg (by rintro ⟨h | h, _⟩; exact h c1; exact h c2), List.append_nil]))
      · exact Ev.neg c2 (yes (.inr c2))
    · exact Ev.neg c1 (yes (.inl c1))
theorem BesOut (s : ByteArray) (a b c d H W : Int) (hH : 0 < H ∧ H ≤ 36000) (hW : 0 < W ∧ W ≤ 72000) (ha : -324000 ≤ a ∧ a ≤ 324000) (hb : -648000 ≤ b ∧ b ≤ 648000) (F : List (Int × Int)) (hF : F.length ≤ 100) (v : List ByteArray × Int)
    (hv : Ev (fun k => place_Beside.l0 k s W [-H, 0, H] 3 3 a b c d F) v) (f : Nat) :
    ∀ (j : Nat) (o : List (Int × Int)), j + f = 3 → o ++ hAll a b H W j = F → Ev (fun k => place_Beside.l0 k s W [-H, 0, H] 3 (j : Int) a b c d o) v := by
  induction f with
  | zero =>
    intro j o hj ho
    have : j = 3 := by omega
    subst this
    have : o = F := by rwa [hAll_end, List.append_nil] at ho
    subst this
    exact hv
  | succ f ih =>
    intro j o hj ho
    have hj3 : j < 3 := by omega
    rw [hAll_step _ _ _ _ _ hj3, ← List.append_assoc] at ho
    have hn := ih (j + 1) _ (by omega) ho
    have hol : (o ++ hRow a b W (three H j) 0).length ≤ 100 := by rw [← ho] at hF; simp at hF ⊢; omega
    have hl : (([-H, 0, H] : List Int).length : Int) = 3 := rfl
    refine Ev.succ ?_
    simp only [place_Beside.l0, hl]
    exact Ev.pos (by omega) (Ev.pos (by omega) (Ev.pos (by omega) (BesIn s a b c d H W hH hW ha hb j hj3 _ hol v hn 3 0 o (by omega) rfl)))
theorem BesEnd (s : ByteArray) (m : Nat) (hs : s.size = m) (hm : m = 2 ∨ m = 4 ∨ m = 6) (r : List (Int × Int)) (hr : r.length ≤ 100) (hR : ∀ p ∈ r, Right p.1 p.2 ∧ p.1 ≤ 323999) (d : Nat) : ∀ (j : Nat), j + d = r.length →
    Ev (fun k => place_Beside.l2 k s (r.length : Int) (j : Int) r ((r.take j).map fun p => loc (p.1 + 324000) (p.2 + 648000) m)) (r.map fun p => loc (p.1 + 324000) (p.2 + 648000) m, 0) := by
  induction d with
  | zero =>
    intro j hj
    rw [List.take_of_length_le (by omega)]
    refine Ev.step (f := fun _ => some _) (fun k => ?_) (Ev.now _)
    simp only [place_Beside.l2]
    rw [if_neg (by omega)]
  | succ d ih =>
    intro j hj
    have hjl : j < r.length := by omega
    obtain ⟨h1, h2⟩ := hR _ (List.getElem_mem hjl)
    have e := locator_ev r[j].1 r[j].2 h1 m hm
    have hmn : mn (r[j].1 + 324000) 647999 = r[j].1 + 324000 := by rw [mn_eq, if_neg (by omega)]
    rw [hmn] at e
    have hn := ih (j + 1) (by omega)
    rw [List.take_succ_eq_append_getElem hjl, List.map_append, List.map_cons, List.map_nil] at hn
    have hlm : ((r.take j).map fun p => loc (p.1 + 324000) (p.2 + 648000) m).length ≤ 100 := by simp; omega
    refine Ev.succ ?_
    simp only [place_Beside.l2, rdE_get e_II r j hjl, hs, wrap_succ (show j ≤ 1000000000000000 by omega)]
    exact Ev.pos (by omega) (Ev.pos (by omega) (Ev.pos (by omega) (Ev.bind e (Ev.pos (by omega) hn))))
end Go.EV.Pure
namespace Go.EV.Pure
open Go Go.EV Go.RowKit
set_option linter.unusedSimpArgs false
set_option maxRecDepth 100000
/-! The reference's areas, and the neighbours of a locator by both texts. -/
theorem sizeOf_lv (i : Nat) (h : i = 0 ∨ i = 2 ∨ i = 4) : pileref1_sizeOf.f (((i + 2 : Nat) : Nat) : Int) = some (lvW i) := by
  rcases h with rfl | rfl | rfl <;> rfl
theorem sizeOf_h (m : Nat) (hm : m = 2 ∨ m = 4 ∨ m = 6) : pileref1_sizeOf.f (m : Int) = some (2 * hOf m) := by
  rcases hm with rfl | rfl | rfl <;> rfl
theorem lv_wrap (b f : Int) (h : 0 ≤ b - f ∧ b - f < 200) : wrap64 ((b - f) % 256) = b - f := by
  rw [wrap_id (by omega) (by omega)]
  omega
theorem wrap_two {i : Nat} (h : i ≤ 1000) : wrap64 ((i : Int) + 2) = ((i + 2 : Nat) : Int) := by
  rw [wrap_id (by omega) (by omega)]
  omega
theorem AreaFor_step (s : ByteArray) (i : Nat) (h6 : i = 0 ∨ i = 2 ∨ i = 4) (hi : i + 1 < s.size) (v0 : 0 ≤ lvV s i ∧ lvV s i < 200) (v1 : 0 ≤ lvV s (i + 1) ∧ lvV s (i + 1) < 200) (n e : Int) (hn : -100000000 ≤ n ∧ n ≤ 100000000) (hE : -100000000 ≤ e ∧ e ≤ 100000000) {r : Int × Int × Int × Int}
    (h : Ev (fun k => pileref1_AreaFor.l0 k s ((i + 2 : Nat) : Int) (n + lvV s (i + 1) * lvH i) (e + lvV s i * lvW i)) r) : Ev (fun k => pileref1_AreaFor.l0 k s (i : Int) n e) r := by
  have hF : lvF (i + 1) = lvF i := by unfold lvF; rcases h6 with rfl | rfl | rfl <;> rfl
  have hW : 0 ≤ lvW i ∧ lvW i ≤ 72000 ∧ lvW i = 2 * lvH i := by unfold lvW lvH; split <;> (try split) <;> omega
  have w1 : wrap64 ((i : Int) + 1) = ((i + 1 : Nat) : Int) := wrap_succ (by omega)
  have w2 : wrap64 ((i : Int) + 2) = ((i + 2 : Nat) : Int) := wrap_two (by clear hF hW w1 h v0 v1; omega)
  have e0 : wrap64 ((bt s (i : Int) - lvF i) % 256) = lvV s i := lv_wrap _ _ v0
  have e1 : wrap64 ((bt s ((i + 1 : Nat) : Int) - lvF i) % 256) = lvV s (i + 1) := by rw [← hF]; exact lv_wrap _ _ v1
  have sz := sizeOf_lv i h6
  generalize hp : lvV s i = p at *
  generalize hq : lvV s (i + 1) = q at *
  generalize lvW i = W at *
  generalize lvH i = H at *
  obtain ⟨W0, W1, rfl⟩ := hW
  have m0 := mul_bd p (2 * H) 200 72000 (by omega) (by omega) (by omega) (by omega)
  have m1 := mul_bd q H 200 36000 (by omega) (by omega) (by omega) (by omega)
  have m2 := mul_bd q (2 * H) 200 72000 (by omega) (by omega) (by omega) (by omega)
  have hd : Int.tdiv (q * (2 * H)) 2 = q * H := by
    rw [show q * (2 * H) = q * H * 2 by rw [Int.mul_comm 2, Int.mul_assoc]]
    exact Int.mul_tdiv_cancel _ (by omega)
  have k0 : wrap64 (p * (2 * H)) = p * (2 * H) := wrap_id (by omega) (by omega)
  have k1 : wrap64 (q * (2 * H)) = q * (2 * H) := wrap_id (by omega) (by omega)
  have k2 : wrap64 (q * H) = q * H := wrap_id (by omega) (by omega)
  have k3 : wrap64 (n + q * H) = n + q * H := wrap_id (by omega) (by omega)
  have k4 : wrap64 (e + p * (2 * H)) = e + p * (2 * H) := wrap_id (by omega) (by omega)
  have hsz : (i : Int) + 1 < (s.size : Int) := by omega
  have hj : Ev (fun k => pileref1_AreaFor.j9 k s (i : Int) n e (2 * H) (lvF i)) r := by
    refine Ev.succ ?_
    simp only [pileref1_AreaFor.j9, w1, w2, e0, e1, k0, k1, hd, k2, k3, k4]
    exact Ev.pos (by omega) (Ev.pos (by omega) (Ev.pos (by omega) (Ev.pos (by omega) h)))
  clear e0 e1 m0 m1 m2 k0 k1 k2 k3 k4 hd v0 v1 hp hq h
  refine Ev.succ ?_
  simp only [pileref1_AreaFor.l0, w2, sz, Option.bind_some]
  refine Ev.pos (by omega) ?_
  rcases h6 with rfl | rfl | rfl
  · exact Ev.neg (by omega) hj
  · exact Ev.pos (by omega) hj
  · exact Ev.neg (by omega) hj
theorem AreaFor_end (s : ByteArray) (m : Nat) (hs : s.size = m) (hm : m = 2 ∨ m = 4 ∨ m = 6) (n e : Int) (hn : -100000000 ≤ n ∧ n ≤ 100000000) (hE : -100000000 ≤ e ∧ e ≤ 100000000) :
    Ev (fun k => pileref1_AreaFor.l0 k s (m : Int) n e) (n, e, n + hOf m, e + 2 * hOf m) := by
  have hH := hOf_bd m
  have hd : Int.tdiv (2 * hOf m) 2 = hOf m := by rw [Int.mul_comm]; exact Int.mul_tdiv_cancel _ (by omega)
  refine Ev.step (f := fun _ => some _) (fun k => ?_) (Ev.now _)
  simp only [pileref1_AreaFor.l0, hs, sizeOf_h m hm, Option.bind_some, hd]
  rw [if_neg (by omega), wrap_id (e := hOf m) (by omega) (by omega), wrap_id (by omega) (by omega), wrap_id (by omega) (by omega)]
theorem area_both (s : ByteArray) (h : locOK s) : ∃ r, Ev (fun k => place_area.f k s) r ∧ Ev (fun k => pileref1_AreaFor.f k s) r := by
  obtain ⟨hs, hv⟩ := h
  have H0 : lvH 0 = 36000 := rfl
  have H2 : lvH 2 = 3600 := rfl
  have H4 : lvH 4 = 150 := rfl
  have W0 : lvW 0 = 72000 := rfl
  have W2 : lvW 2 = 7200 := rfl
  have W4 : lvW 4 = 300 := rfl
  have hv2 : ∀ i < s.size, 0 ≤ lvV s i ∧ lvV s i < 25 := fun i hi => by
    have := hv i hi
    have hM : lvM i ≤ 24 := by unfold lvM; split <;> (try split) <;> omega
    omega
  have v0 := hv2 0 (by omega)
  have v1 := hv2 (0 + 1) (by omega)
  unfold place_area.f pileref1_AreaFor.f
  rcases hs with c | c | c
  · refine ⟨_, area_step s 0 (by omega) rfl (by omega) (by omega) (by omega) _ _ (by omega) (by omega) _ _ _ _ (area_end s 0 c (by omega) _ _ (by rw [H0]; omega) (by rw [W0]; omega)), ?_⟩
    exact AreaFor_step s 0 (by omega) (by omega) (by omega) (by omega) _ _ (by omega) (by omega) (AreaFor_end s 2 c (by omega) _ _ (by rw [H0]; omega) (by rw [W0]; omega))
  · have v2 := hv2 2 (by omega)
    have v3 := hv2 (2 + 1) (by omega)
    refine ⟨_, area_step s 0 (by omega) rfl (by omega) (by omega) (by omega) _ _ (by omega) (by omega) _ _ _ _ (area_step s 2 (by omega) rfl (by omega) (by omega) (by omega) _ _ (by rw [H0]; omega) (by rw [W0]; omega) _ _ _ _ (area_end s 2 c (by omega) _ _ (by rw [H0, H2]; omega) (by rw [W0, W2]; omega))), ?_⟩
    exact AreaFor_step s 0 (by omega) (by omega) (by omega) (by omega) _ _ (by omega) (by omega) (AreaFor_step s 2 (by omega) (by omega) (by omega) (by omega) _ _ (by rw [H0]; omega) (by rw [W0]; omega) (AreaFor_end s 4 c (by omega) _ _ (by rw [H0, H2]; omega) (by rw [W0, W2]; omega)))
  · have v2 := hv2 2 (by omega)
    have v3 := hv2 (2 + 1) (by omega)
    have v4 := hv2 4 (by omega)
    have v5 := hv2 (4 + 1) (by omega)
    refine ⟨_, area_step s 0 (by omega) rfl (by omega) (by omega) (by omega) _ _ (by omega) (by omega) _ _ _ _ (area_step s 2 (by omega) rfl (by omega) (by omega) (by omega) _ _ (by rw [H0]; omega) (by rw [W0]; omega) _ _ _ _ (area_step s 4 (by omega) rfl (by omega) (by omega) (by omega) _ _ (by rw [H0, H2]; omega) (by rw [W0, W2]; omega) _ _ _ _ (area_end s 4 c (by omega) _ _ (by rw [H0, H2, H4]; omega) (by rw [W0, W2, W4]; omega)))), ?_⟩
    exact AreaFor_step s 0 (by omega) (by omega) (by omega) (by omega) _ _ (by omega) (by omega) (AreaFor_step s 2 (by omega) (by omega) (by omega) (by omega) _ _ (by rw [H0]; omega) (by rw [W0]; omega) (AreaFor_step s 4 (by omega) (by omega) (by omega) (by omega) _ _ (by rw [H0, H2]; omega) (by rw [W0, W2]; omega) (AreaFor_end s 6 c (by omega) _ _ (by rw [H0, H2, H4]; omega) (by rw [W0, W2, W4]; omega))))
theorem AreaFor_loc (N E : Int) (m : Nat) (h : inW N E) (hm : m = 2 ∨ m = 4 ∨ m = 6) : Ev (fun k => pileref1_AreaFor.f k (loc N E m)) (N - N % hOf m - 324000, E - E % (2 * hOf m) - 648000, N - N % hOf m - 324000 + hOf m, E - E % (2 * hOf m) - 648000 + 2 * hOf m) := by
  obtain ⟨r, h1, h2⟩ := area_both _ (loc_ok N E m h hm)
  have := Ev.uniq h1 (area_ev N E m h hm)
  rwa [this] at h2
theorem hOf_cases (m : Nat) : hOf m = 36000 ∨ hOf m = 3600 ∨ hOf m = 150 := by unfold hOf; split <;> (try split) <;> omega
theorem middle_both (N E : Int) (m : Nat) (h : inW N E) (hm : m = 2 ∨ m = 4 ∨ m = 6) :
    Ev (fun k => place_middle.f k (loc N E m)) (loN N m + hOf m / 2, loE E m + hOf m) ∧ Ev (fun k => pileref1_MiddleOf.f k (loc N E m)) (loN N m + hOf m / 2, loE E m + hOf m) := by
  have hH := hOf_cases m
  have e1 : N - N % hOf m - 324000 = loN N m := rfl
  have e2 : E - E % (2 * hOf m) - 648000 = loE E m := rfl
  have b1 : -324000 ≤ loN N m ∧ loN N m ≤ 324000 := by unfold loN inW at *; rcases hH with q | q | q <;> rw [q] <;> omega
  have b2 : -648000 ≤ loE E m ∧ loE E m ≤ 648000 := by unfold loE inW at *; rcases hH with q | q | q <;> rw [q] <;> omega
  constructor
  · have ha := area_ev N E m h hm
    rw [e1, e2] at ha
    refine Ev.bind ha (Ev.of fun k => ?_)
    simp only
    rw [wrap_id (e := loN N m + hOf m - loN N m) (by omega) (by omega), wrap_id (e := loE E m + 2 * hOf m - loE E m) (by omega) (by omega), tdiv_pos (by omega), tdiv_pos (by omega), wrap_id (e := (loN N m + hOf m - loN N m) / 2) (by omega) (by omega), wrap_id (e := (loE E m + 2 * hOf m - loE E m) / 2) (by omega) (by omega), wrap_id (by omega) (by omega), wrap_id (by omega) (by omega)]
    simp only [Option.some.injEq, Prod.mk.injEq]
    omega
  · have ha := AreaFor_loc N E m h hm
    rw [e1, e2] at ha
    refine Ev.bind ha (Ev.of fun k => ?_)
    simp only
    rw [wrap_id (e := loN N m + (loN N m + hOf m)) (by omega) (by omega), wrap_id (e := loE E m + (loE E m + 2 * hOf m)) (by omega) (by omega)]
    have d1 : Int.tdiv (loN N m + (loN N m + hOf m)) 2 = loN N m + hOf m / 2 := by
      rw [show loN N m + (loN N m + hOf m) = (loN N m + hOf m / 2) * 2 by rcases hH with q | q | q <;> rw [q] <;> omega]
      exact Int.mul_tdiv_cancel _ (by omega)
    have d2 : Int.tdiv (loE E m + (loE E m + 2 * hOf m)) 2 = loE E m + hOf m := by
      rw [show loE E m + (loE E m + 2 * hOf m) = (loE E m + hOf m) * 2 by omega]
      exact Int.mul_tdiv_cancel _ (by omega)
    rw [d1, d2, wrap_id (by omega) (by omega), wrap_id (by omega) (by omega)]
/-! Two sorts, hand in hand. -/
def cmpOK (φ : Int × Int → ByteArray) (p q : Int × Int) : Prop := ∃ c d, place_Beside_1.f p.1 p.2 q.1 q.2 = some c ∧ Ev (fun k => pileref1_BesideOf_1.f k (φ p) (φ q)) d ∧ (c < 0 ↔ d < 0)
theorem ins2In (φ : Int × Int → ByteArray) (x8 : Int) (n : Nat) (hn : n ≤ 12) : ∀ (i : Nat) (o : List (Int × Int)), o.length = n → i < n → (∀ p ∈ o, ∀ q ∈ o, cmpOK φ p q) → ∃ o' : List (Int × Int), o'.Perm o ∧
    (∀ v, Ev (fun k => slices_insertionSortCmpFunc_api_Site_of_place_Beside_1.l0 k 0 (n : Int) (wrap64 (x8 + 1)) o') v → Ev (fun k => slices_insertionSortCmpFunc_api_Site_of_place_Beside_1.l1 k 0 (n : Int) x8 (i : Int) o) v) ∧
    (∀ v, Ev (fun k => slices_insertionSortCmpFunc_string_of_pileref1_BesideOf_1.l0 k 0 (n : Int) (wrap64 (x8 + 1)) (o'.map φ)) v → Ev (fun k => slices_insertionSortCmpFunc_string_of_pileref1_BesideOf_1.l1 k 0 (n : Int) x8 (i : Int) (o.map φ)) v)
  | 0, o, ho, hi, hc => ⟨o, List.Perm.refl _, fun v hv => Ev.succ (by
      simp only [slices_insertionSortCmpFunc_api_Site_of_place_Beside_1.l1]
      exact Ev.neg (by omega) hv), fun v hv => Ev.succ (by
      simp only [slices_insertionSortCmpFunc_string_of_pileref1_BesideOf_1.l1]
      exact Ev.neg (by omega) hv)⟩
  | i + 1, o, ho, hi, hc => by
    have r1 : rdE e_II o ((i + 1 : Nat) : Int) = o[i + 1] := rdE_get e_II o (i + 1) (by omega)
    have r0 : rdE e_II o (i : Int) = o[i] := rdE_get e_II o i (by omega)
    have s1 : rdE eS (o.map φ) ((i + 1 : Nat) : Int) = φ o[i + 1] := by rw [rdE_get eS (o.map φ) (i + 1) (by rw [List.length_map]; omega)]; simp
    have s0 : rdE eS (o.map φ) (i : Int) = φ o[i] := by rw [rdE_get eS (o.map φ) i (by rw [List.length_map]; omega)]; simp
    have w : wrap64 (((i + 1 : Nat) : Int) - 1) = (i : Int) := by rw [wrap_id (by omega) (by omega)]; omega
    have hs : ((o.set (i + 1) o[i]).set i o[i + 1]).length = n := by simp [ho]
    have hp0 := swap_perm i o (by omega)
    obtain ⟨o', hp, hstep, hstep2⟩ := ins2In φ x8 n hn i ((o.set (i + 1) o[i]).set i o[i + 1]) hs (by omega) (fun p hp q hq => hc p (hp0.mem_iff.1 hp) q (hp0.mem_iff.1 hq))
    have hmap : ((o.set (i + 1) o[i]).set i o[i + 1]).map φ = ((o.map φ).set (i + 1) (φ o[i])).set i (φ o[i + 1]) := by simp [List.map_set]
    rw [hmap] at hstep2
    have hml : (o.map φ).length = n := by rw [List.length_map, ho]
    obtain ⟨c, d, hc1, hd1, hcd⟩ := hc o[i + 1] (List.getElem_mem _) o[i] (List.getElem_mem _)
    by_cases dd : c < 0
    · refine ⟨o', hp.trans hp0, fun v hv => Ev.succ ?_, fun v hv => Ev.succ ?_⟩
      · simp only [slices_insertionSortCmpFunc_api_Site_of_place_Beside_1.l1, r1, r0, w, hc1, Option.bind_some, Int.toNat_natCast]
        exact Ev.pos (by omega) (Ev.pos (by omega) (Ev.pos (by omega) (Ev.pos (by omega) (Ev.pos (by omega) (Ev.pos dd (Ev.pos (by omega) (Ev.pos (by omega) (Ev.pos (by omega) (Ev.pos (by omega) (Ev.pos (by omega) (Ev.pos (by omega) (Ev.pos (by omega) (Ev.pos (by omega) (hstep v hv))))))))))))))
      · simp only [slices_insertionSortCmpFunc_string_of_pileref1_BesideOf_1.l1, s1, s0, w, Int.toNat_natCast]
        exact Ev.pos (by omega) (Ev.pos (by omega) (Ev.pos (by omega) (Ev.pos (by omega) (Ev.pos (by omega) (Ev.bind hd1 (Ev.pos (hcd.1 dd) (Ev.pos (by omega) (Ev.pos (by omega) (Ev.pos (by omega) (Ev.pos (by omega) (Ev.pos (by omega) (Ev.pos (by omega) (Ev.pos (by omega) (Ev.pos (by omega) (hstep2 v hv)))))))))))))))
    · refine ⟨o, List.Perm.refl _, fun v hv => Ev.succ ?_, fun v hv => Ev.succ ?_⟩
      · simp only [slices_insertionSortCmpFunc_api_Site_of_place_Beside_1.l1, r1, r0, w, hc1, Option.bind_some]
        exact Ev.pos (by omega) (Ev.pos (by omega) (Ev.pos (by omega) (Ev.pos (by omega) (Ev.pos (by omega) (Ev.neg dd hv)))))
      · simp only [slices_insertionSortCmpFunc_string_of_pileref1_BesideOf_1.l1, s1, s0, w]
        exact Ev.pos (by omega) (Ev.pos (by omega) (Ev.pos (by omega) (Ev.pos (by omega) (Ev.pos (by omega) (Ev.bind hd1 (Ev.neg (fun h => dd (hcd.2 h)) hv))))))
theorem ins2Out (φ : Int × Int → ByteArray) (n : Nat) (hn : n ≤ 12) : ∀ (d j : Nat) (o : List (Int × Int)), o.length = n → j + d = n → (∀ p ∈ o, ∀ q ∈ o, cmpOK φ p q) → ∃ o' : List (Int × Int), o'.Perm o ∧
    Ev (fun k => slices_insertionSortCmpFunc_api_Site_of_place_Beside_1.l0 k 0 (n : Int) (j : Int) o) o' ∧ Ev (fun k => slices_insertionSortCmpFunc_string_of_pileref1_BesideOf_1.l0 k 0 (n : Int) (j : Int) (o.map φ)) (o'.map φ)
  | 0, j, o, ho, hj, hc => ⟨o, List.Perm.refl _, Ev.step (f := fun _ => some _) (fun k => by simp only [slices_insertionSortCmpFunc_api_Site_of_place_Beside_1.l0]; rw [if_neg (by omega)]) (Ev.now _), Ev.step (f := fun _ => some _) (fun k => by simp only [slices_insertionSortCmpFunc_string_of_pileref1_BesideOf_1.l0]; rw [if_neg (by omega)]) (Ev.now _)⟩
  | d + 1, j, o, ho, hj, hc => by
    obtain ⟨o1, p1, s1, t1⟩ := ins2In φ (j : Int) n hn j o ho (by omega) hc
    obtain ⟨o2, p2, e2, f2⟩ := ins2Out φ n hn d (j + 1) o1 (by rw [p1.length_eq, ho]) (by omega) (fun p hp q hq => hc p (p1.mem_iff.1 hp) q (p1.mem_iff.1 hq))
    refine ⟨o2, p2.trans p1, Ev.succ ?_, Ev.succ ?_⟩
    · simp only [slices_insertionSortCmpFunc_api_Site_of_place_Beside_1.l0]
      refine Ev.pos (by omega) (s1 o2 ?_)
      rw [wrap_succ (by omega)]
      exact e2
    · simp only [slices_insertionSortCmpFunc_string_of_pileref1_BesideOf_1.l0]
      refine Ev.pos (by omega) (t1 _ ?_)
      rw [wrap_succ (by omega)]
      exact f2
theorem SortBoth_ev (φ : Int × Int → ByteArray) (o : List (Int × Int)) (ho : o.length = 5 ∨ o.length = 8) (hc : ∀ p ∈ o, ∀ q ∈ o, cmpOK φ p q) : ∃ o' : List (Int × Int), o'.Perm o ∧ o.length = o'.length ∧
    Ev (fun k => slices_SortFunc_api_Site_api_Site_of_place_Beside_1.f k o) o' ∧ Ev (fun k => slices_SortFunc_string_string_of_pileref1_BesideOf_1.f k (o.map φ)) (o'.map φ) := by
  have hlen : ∃ b, Ev (fun k => math_bits_Len.f k (IntKind.u64.wrap (o.length : Int))) b := by
    rcases ho with h | h <;> rw [h]
    · exact ⟨3, Ev.from 20 fun k => by kernel_rfl⟩
    · exact ⟨4, Ev.from 20 fun k => by kernel_rfl⟩
  obtain ⟨b, eb⟩ := hlen
  obtain ⟨o', hp, he, hf⟩ := ins2Out φ o.length (by omega) (o.length - 1) 1 o rfl (by omega) hc
  have hl : o.length = o'.length := hp.length_eq.symm
  have w1 : wrap64 (0 + 1) = ((1 : Nat) : Int) := by rw [wrap_id (by omega) (by omega)]; rfl
  have hml : (o.map φ).length = o.length := List.length_map ..
  refine ⟨o', hp, hl, ?_, ?_⟩
  · unfold slices_SortFunc_api_Site_api_Site_of_place_Beside_1.f
    refine Ev.bind eb (Ev.bind (a := o') ?_ (Ev.pos hl (Ev.now _)))
    unfold slices_pdqsortCmpFunc_api_Site_of_place_Beside_1.f
    refine Ev.succ ?_
    simp only [slices_pdqsortCmpFunc_api_Site_of_place_Beside_1.l0, wrap_id (e := (o.length : Int) - 0) (by omega) (by omega)]
    refine Ev.pos (by omega) (Ev.bind (a := o') ?_ (Ev.pos hl (Ev.now _)))
    unfold slices_insertionSortCmpFunc_api_Site_of_place_Beside_1.f
    rw [w1]
    exact he
  · unfold slices_SortFunc_string_string_of_pileref1_BesideOf_1.f
    rw [hml]
    refine Ev.bind eb (Ev.bind (a := o'.map φ) ?_ (Ev.pos (by rw [List.length_map]; exact hl) (Ev.now _)))
    unfold slices_pdqsortCmpFunc_string_of_pileref1_BesideOf_1.f
    refine Ev.succ ?_
    simp only [slices_pdqsortCmpFunc_string_of_pileref1_BesideOf_1.l0, wrap_id (e := (o.length : Int) - 0) (by omega) (by omega)]
    refine Ev.pos (by omega) (Ev.bind (a := o'.map φ) ?_ (Ev.pos (by rw [List.length_map, List.length_map]; exact hl) (Ev.now _)))
    unfold slices_insertionSortCmpFunc_string_of_pileref1_BesideOf_1.f
    rw [w1]
    exact hf
/-! The neighbours. -/
/-- A site's locator, of sites at the edges. -/
def phi (m : Nat) (p : Int × Int) : ByteArray := loc (p.1 + 324000) (p.2 + 648000) m
def onGrid (m : Nat) (p : Int × Int) : Prop := inW (p.1 + 324000) (p.2 + 648000) ∧ (p.1 + 324000) % hOf m = 0 ∧ (p.2 + 648000) % (2 * hOf m) = 0
theorem Compare_eq (a b : Int) : cmp_Compare_int.f a b = some (if a < b then -1 else if a > b then 1 else 0) := by
  unfold cmp_Compare_int.f cmp_isNaN_int.f
  simp only [decide_true, Bool.not_true, Option.bind_some, Bool.false_eq_true, if_false]
  split
  · rfl
  · split <;> rfl
theorem OrInt_two (a b : Int) : Ev (fun k => cmp_Or_int.f k [a, b]) (if a = 0 then b else a) := by
  have r0 : rd [a, b] 0 = a := rfl
  have r1 : rd [a, b] 1 = b := rfl
  have w3 : wrap64 (0 + 1) = 1 := wrap_id (by omega) (by omega)
  have w4 : wrap64 (1 + 1) = 2 := wrap_id (by omega) (by omega)
  unfold cmp_Or_int.f
  refine Ev.succ ?_
  simp only [cmp_Or_int.l0, r0, w3]
  refine Ev.pos (by simp) (Ev.pos (by omega) (Ev.pos (by simp) ?_))
  by_cases c : a = 0
  · rw [if_pos c]
    refine Ev.pos c (Ev.succ ?_)
    simp only [cmp_Or_int.l0, r1, w4]
    refine Ev.pos (by simp) (Ev.pos (by omega) (Ev.pos (by simp) ?_))
    by_cases c2 : b = 0
    · refine Ev.pos c2 (Ev.succ ?_)
      simp only [cmp_Or_int.l0]
      rw [c2]
      exact Ev.neg (by simp) (Ev.now _)
    · exact Ev.neg c2 (Ev.now _)
  · rw [if_neg c]
    exact Ev.neg c (Ev.now _)
theorem cmp_grid (m : Nat) (hm : m = 2 ∨ m = 4 ∨ m = 6) (p q : Int × Int) (hp : onGrid m p) (hq : onGrid m q) : cmpOK (phi m) p q := by
  obtain ⟨hp1, hp2, hp3⟩ := hp
  obtain ⟨hq1, hq2, hq3⟩ := hq
  have ap := AreaFor_loc (p.1 + 324000) (p.2 + 648000) m hp1 hm
  have aq := AreaFor_loc (q.1 + 324000) (q.2 + 648000) m hq1 hm
  rw [hp2, hp3] at ap
  rw [hq2, hq3] at aq
  rw [show p.1 + 324000 - 0 - 324000 = p.1 by omega, show p.2 + 648000 - 0 - 648000 = p.2 by omega] at ap
  rw [show q.1 + 324000 - 0 - 324000 = q.1 by omega, show q.2 + 648000 - 0 - 648000 = q.2 by omega] at aq
  unfold inW at hp1 hq1
  refine ⟨if p.1 = q.1 then p.2 - q.2 else p.1 - q.1, if (if p.1 < q.1 then (-1 : Int) else if p.1 > q.1 then 1 else 0) = 0 then (if p.2 < q.2 then (-1 : Int) else if p.2 > q.2 then 1 else 0) else (if p.1 < q.1 then (-1 : Int) else if p.1 > q.1 then 1 else 0), ?_, ?_, ?_⟩
  · unfold place_Beside_1.f
    by_cases c : p.1 = q.1
    · rw [if_pos c, if_pos c, wrap_id (by omega) (by omega)]
    · rw [if_neg c, if_neg c, wrap_id (by omega) (by omega)]
  · refine Ev.bind ap (Ev.bind aq ?_)
    simp only [Compare_eq, Option.bind_some]
    exact Ev.bind (OrInt_two _ _) (Ev.now _)
  · repeat' split
    all_goals omega
theorem around_ref (a : Int) (h0 : -1099511627776 ≤ a) (h1 : a ≤ 1099511627776) : Ev (fun k => pileref1_around.f k a) (aroundV a) := by
  unfold pileref1_around.f aroundV
  rw [wrap_id (e := a + 648000) (by omega) (by omega)]
  have jj : ∀ x : Int, Ev (fun k => pileref1_around.j4 k x) (wrap64 (x - 648000)) := fun x => Ev.from 1 fun k => rfl
  rcases (by omega : a + 648000 < 0 ∨ 0 ≤ a + 648000) with c | c
  · have e : Int.tmod (a + 648000) 1296000 = -((-(a + 648000)) % 1296000) := tmod_neg (by omega)
    by_cases c2 : Int.tmod (a + 648000) 1296000 < 0
    · refine Ev.pos c2 ?_
      have := jj (wrap64 ((Int.tmod (a + 648000) 1296000) + 1296000))
      rw [wrap_id (e := Int.tmod (a + 648000) 1296000 + 1296000) (by omega) (by omega), wrap_id (by omega) (by omega)] at this
      rw [wrap_id (e := Int.tmod (a + 648000) 1296000 + 1296000) (by omega) (by omega)]
      rwa [show Int.tmod (a + 648000) 1296000 + 1296000 - 648000 = (a + 648000) % 1296000 - 648000 by omega] at this
    · refine Ev.neg c2 ?_
      have := jj (Int.tmod (a + 648000) 1296000)
      rw [wrap_id (by omega) (by omega)] at this
      rwa [show Int.tmod (a + 648000) 1296000 - 648000 = (a + 648000) % 1296000 - 648000 by omega] at this
  · have e : Int.tmod (a + 648000) 1296000 = (a + 648000) % 1296000 := tmod_pos c
    rw [e]
    refine Ev.neg (by omega) ?_
    have := jj ((a + 648000) % 1296000)
    rwa [wrap_id (by omega) (by omega)] at this
/-- What is drawn beside is on the grid. -/
theorem cand_grid (m : Nat) (a b : Int) (ha : (-324000 ≤ a ∧ a ≤ 323999) ∧ (a + 324000) % hOf m = 0) (hb : (-648000 ≤ b ∧ b ≤ 647999) ∧ (b + 648000) % (2 * hOf m) = 0) (i j : Nat) (hi : i < 3) (hj : j < 3) (hok : okN (a + three (hOf m) i)) :
    onGrid m (a + three (hOf m) i, aroundV (b + three (2 * hOf m) j)) := by
  unfold okN at hok
  unfold onGrid inW aroundV three at *
  have hc := hOf_cases m
  generalize hOf m = H at *
  rcases hc with rfl | rfl | rfl <;> rcases (by omega : i = 0 ∨ i = 1 ∨ i = 2) with rfl | rfl | rfl <;> rcases (by omega : j = 0 ∨ j = 1 ∨ j = 2) with rfl | rfl | rfl <;> simp at * <;> omega
theorem around_mid (m : Nat) (b : Int) (hb : (-648000 ≤ b ∧ b ≤ 647999) ∧ (b + 648000) % (2 * hOf m) = 0) (j : Nat) (hj : j < 3) : aroundV (b + hOf m + three (2 * hOf m) j) = aroundV (b + three (2 * hOf m) j) + hOf m := by
  unfold aroundV three
  have hc := hOf_cases m
  generalize hOf m = H at *
  rcases hc with rfl | rfl | rfl <;> rcases (by omega : j = 0 ∨ j = 1 ∨ j = 2) with rfl | rfl | rfl <;> simp at * <;> omega
theorem in_mid (m : Nat) (a : Int) (ha : (-324000 ≤ a ∧ a ≤ 323999) ∧ (a + 324000) % hOf m = 0) (i : Nat) (hi : i < 3) : (-324000 ≤ a + hOf m / 2 + three (hOf m) i ∧ a + hOf m / 2 + three (hOf m) i ≤ 324000) ↔ okN (a + three (hOf m) i) := by
  unfold okN three
  have hc := hOf_cases m
  generalize hOf m = H at *
  rcases hc with rfl | rfl | rfl <;> rcases (by omega : i = 0 ∨ i = 1 ∨ i = 2) with rfl | rfl | rfl <;> simp at * <;> omega
theorem grid_loc (m : Nat) (hm : m = 2 ∨ m = 4 ∨ m = 6) (n e : Int) (h : onGrid m (n, e)) (hok : okN n) (he : -648000 ≤ e + hOf m ∧ e + hOf m ≤ 647999) : Right (n + hOf m / 2) (e + hOf m) ∧ loc (mn (n + hOf m / 2 + 324000) 647999) (e + hOf m + 648000) m = phi m (n, e) := by
  obtain ⟨h1, h2, h3⟩ := h
  simp only at h1 h2 h3
  have hl := (loc_mid (n + 324000) (e + 648000) m h1 hm).1
  rw [h2, h3] at hl
  unfold okN at hok
  unfold inW at h1
  have hb : n + 324000 + hOf m / 2 ≤ 647999 ∧ 0 ≤ hOf m / 2 := by
    clear hl
    have hc := hOf_cases m
    generalize hOf m = H at *
    rcases hc with rfl | rfl | rfl <;> omega
  refine ⟨by unfold Right; omega, ?_⟩
  rw [mn_eq, if_neg (by omega)]
  unfold phi
  simp only
  rw [← hl]
  congr 1 <;> omega
theorem three_mul (H : Int) (i : Nat) (hi : i < 3) : ((i : Int) - 1) * H = three H i := by
  unfold three
  rcases (by omega : i = 0 ∨ i = 1 ∨ i = 2) with rfl | rfl | rfl
  · simp
  · simp
  · simp only [show ¬ (2 = 0) by omega, show ¬ (2 = 1) by omega, if_false]
    rw [show (((2 : Nat) : Int) - 1) = 1 from rfl, Int.one_mul]
theorem BesOfIn (s : ByteArray) (m : Nat) (hs : s.size = m) (hm : m = 2 ∨ m = 4 ∨ m = 6) (a b : Int) (ha : (-324000 ≤ a ∧ a ≤ 323999) ∧ (a + 324000) % hOf m = 0) (hb : (-648000 ≤ b ∧ b ≤ 647999) ∧ (b + 648000) % (2 * hOf m) = 0) (i : Nat) (hi : i < 3) (F : List (Int × Int)) (hF : F.length ≤ 100) (v : List ByteArray)
    (hv : Ev (fun k => pileref1_BesideOf.l0 k s (2 * hOf m) (((i + 1 : Nat) : Int) - 1) (a + hOf m / 2) (b + hOf m) (F.map (phi m))) v) (f : Nat) :
    ∀ (j : Nat) (o : List (Int × Int)), j + f = 3 → o ++ hRow a b (2 * hOf m) (three (hOf m) i) j = F → Ev (fun k => pileref1_BesideOf.l1 k s (2 * hOf m) ((i : Int) - 1) (a + hOf m / 2) (b + hOf m) ((j : Int) - 1) (o.map (phi m))) v := by
  have hH := hOf_bd m
  induction f with
  | zero =>
    intro j o hj ho
    have : j = 3 := by omega
    subst this
    have : o = F := by rwa [hRow_end, List.append_nil] at ho
    subst this
    refine Ev.succ ?_
    simp only [pileref1_BesideOf.l1, wrap_id (e := (i : Int) - 1 + 1) (by omega) (by omega)]
    rw [show (i : Int) - 1 + 1 = ((i + 1 : Nat) : Int) - 1 by omega]
    exact Ev.neg (by omega) hv
  | succ f ih =>
    intro j o hj ho
    have hj3 : j < 3 := by omega
    rw [hRow_step _ _ _ _ _ hj3, ← List.append_assoc] at ho
    have hn := ih (j + 1) _ (by omega) ho
    have j8 : ∀ o2 : List (Int × Int), o2 = o ++ cand a b (three (hOf m) i) (three (2 * hOf m) j) → Ev (fun k => pileref1_BesideOf.j8 k s (2 * hOf m) ((i : Int) - 1) (a + hOf m / 2) (b + hOf m) ((j : Int) - 1) (o2.map (phi m))) v := fun o2 h2 => by
      subst h2
      refine Ev.succ ?_
      simp only [pileref1_BesideOf.j8, wrap_id (e := (j : Int) - 1 + 1) (by omega) (by omega)]
      rw [show (j : Int) - 1 + 1 = ((j + 1 : Nat) : Int) - 1 by omega]
      exact hn
    have hol : o.length ≤ 100 := by rw [← ho] at hF; simp at hF; omega
    have b1 : -36000 ≤ three (hOf m) i ∧ three (hOf m) i ≤ 36000 := by unfold three; split <;> (try split) <;> omega
    have b2 : -72000 ≤ three (2 * hOf m) j ∧ three (2 * hOf m) j ≤ 72000 := by unfold three; split <;> (try split) <;> omega
    have t1 : ((j : Int) - 1) * (2 * hOf m) = three (2 * hOf m) j := three_mul _ j hj3
    have t2 : ((i : Int) - 1) * (2 * hOf m) = three (hOf m) i * 2 := by rw [← three_mul (hOf m) i hi, Int.mul_comm 2, Int.mul_assoc]
    have t3 : Int.tdiv (three (hOf m) i * 2) 2 = three (hOf m) i := Int.mul_tdiv_cancel _ (by omega)
    have hz1 : three (hOf m) i = 0 ↔ i = 1 := by unfold three; rcases (by omega : i = 0 ∨ i = 1 ∨ i = 2) with rfl | rfl | rfl <;> simp <;> omega
    have hz2 : three (2 * hOf m) j = 0 ↔ j = 1 := by unfold three; rcases (by omega : j = 0 ∨ j = 1 ∨ j = 2) with rfl | rfl | rfl <;> simp <;> omega
    have hA := around_ref (b + hOf m + three (2 * hOf m) j) (by omega) (by omega)
    rw [around_mid m b hb j hj3] at hA
    have hI := in_mid m a ha i hi
    have ab := aroundV_bd (b + hOf m + three (2 * hOf m) j)
    rw [around_mid m b hb j hj3] at ab
    refine Ev.succ ?_
    simp only [pileref1_BesideOf.l1, t1, t2, wrap_id (e := three (2 * hOf m) j) (by omega) (by omega), wrap_id (e := three (hOf m) i * 2) (by omega) (by omega), t3, wrap_id (e := three (hOf m) i) (by omega) (by omega), wrap_id (e := b + hOf m + three (2 * hOf m) j) (by omega) (by omega), wrap_id (e := a + hOf m / 2 + three (hOf m) i) (by omega) (by omega), in_eq, Option.bind_some, hs]
    refine Ev.pos (by omega) (Ev.bind hA ?_)
    by_cases q : okN (a + three (hOf m) i)
    · have hg := cand_grid m a b ha hb i j hi hj3 q
      obtain ⟨hr, hl⟩ := grid_loc m hm _ _ hg q ab
      rw [show a + three (hOf m) i + hOf m / 2 = a + hOf m / 2 + three (hOf m) i by omega] at hr hl
      have hF2 := LocatorFor_ev _ _ hr m hm
      rw [hl] at hF2
      have hml : (o.map (phi m)).length ≤ 100 := by rw [List.length_map]; exact hol
      have yes : (three (hOf m) i ≠ 0 ∨ three (2 * hOf m) j ≠ 0) → Ev (fun k => pileref1_BesideOf.j8 k s (2 * hOf m) ((i : Int) - 1) (a + hOf m / 2) (b + hOf m) ((j : Int) - 1) (o.map (phi m) ++ [phi m (a + three (hOf m) i, aroundV (b + three (2 * hOf m) j))])) v := fun hne => by
        have := j8 (o ++ [(a + three (hOf m) i, aroundV (b + three (2 * hOf m) j))]) (by unfold cand; rw [if_pos ⟨hne, q⟩])
        rwa [List.map_append, List.map_cons, List.map_nil] at this
      refine Ev.pos (by simpa using hI.2 q) ?_
      by_cases c1 : i = 1
      · refine Ev.pos (by omega) ?_
        by_cases c2 : j = 1
        · exact Ev.pos (by omega) (j8 _ (by unfold cand; rw [if_neg (by rintro ⟨h | h, _⟩; exact h (hz1.2 c1); exact h (hz2.2 c2)), List.append_nil]))
        · exact Ev.neg (by omega) (Ev.bind hF2 (Ev.pos (by omega) (yes (.inr fun h => c2 (hz2.1 h)))))
      · exact Ev.neg (by omega) (Ev.bind hF2 (Ev.pos (by omega) (yes (.inl fun h => c1 (hz1.1 h)))))
    · refine Ev.neg (by simpa using fun h1 h2 => q (hI.1 ⟨h1, h2⟩)) (j8 _ (by unfold cand; rw [if_neg fun h => q h.2, List.append_nil]))
theorem BesOfOut (s : ByteArray) (m : Nat) (hs : s.size = m) (hm : m = 2 ∨ m = 4 ∨ m = 6) (a b : Int) (ha : (-324000 ≤ a ∧ a ≤ 323999) ∧ (a + 324000) % hOf m = 0) (hb : (-648000 ≤ b ∧ b ≤ 647999) ∧ (b + 648000) % (2 * hOf m) = 0) (F : List (Int × Int)) (hF : F.length ≤ 100) (v : List ByteArray)
    (hv : Ev (fun k => pileref1_BesideOf.l0 k s (2 * hOf m) 2 (a + hOf m / 2) (b + hOf m) (F.map (phi m))) v) (f : Nat) :
    ∀ (j : Nat) (o : List (Int × Int)), j + f = 3 → o ++ hAll a b (hOf m) (2 * hOf m) j = F → Ev (fun k => pileref1_BesideOf.l0 k s (2 * hOf m) ((j : Int) - 1) (a + hOf m / 2) (b + hOf m) (o.map (phi m))) v := by
  induction f with
  | zero =>
    intro j o hj ho
    have : j = 3 := by omega
    subst this
    have : o = F := by rwa [hAll_end, List.append_nil] at ho
    subst this
    exact hv
  | succ f ih =>
    intro j o hj ho
    have hj3 : j < 3 := by omega
    rw [hAll_step _ _ _ _ _ hj3, ← List.append_assoc] at ho
    have hn := ih (j + 1) _ (by omega) ho
    have hol : (o ++ hRow a b (2 * hOf m) (three (hOf m) j) 0).length ≤ 100 := by rw [← ho] at hF; simp at hF ⊢; omega
    refine Ev.succ ?_
    simp only [pileref1_BesideOf.l0]
    exact Ev.pos (by omega) (BesOfIn s m hs hm a b ha hb j hj3 _ hol v hn 3 0 o (by omega) rfl)
theorem hRow_len (a b W dn : Int) (hW : 0 < W) (hd : dn ≠ 0) : (hRow a b W dn 0).length = if okN (a + dn) then 3 else 0 := by
  have e : hRow a b W dn 0 = cand a b dn (-W) ++ (cand a b dn 0 ++ (cand a b dn W ++ [])) := rfl
  have c : ∀ de, cand a b dn de = if okN (a + dn) then [(a + dn, aroundV (b + de))] else [] := fun de => by
    unfold cand
    by_cases q : okN (a + dn)
    · rw [if_pos ⟨.inl hd, q⟩, if_pos q]
    · rw [if_neg fun h => q h.2, if_neg q]
  rw [e, c, c, c]
  by_cases q : okN (a + dn)
  · simp only [if_pos q]; rfl
  · simp only [if_neg q]; rfl
theorem hRow_len0 (a b W : Int) (hW : 0 < W) (q : okN (a + 0)) : (hRow a b W 0 0).length = 2 := by
  have e : hRow a b W 0 0 = cand a b 0 (-W) ++ (cand a b 0 0 ++ (cand a b 0 W ++ [])) := rfl
  have c1 : cand a b 0 (-W) = [(a + 0, aroundV (b + -W))] := by unfold cand; rw [if_pos ⟨.inr (by omega), q⟩]
  have c2 : cand a b 0 0 = [] := by unfold cand; rw [if_neg (by rintro ⟨h | h, _⟩ <;> exact h rfl)]
  have c3 : cand a b 0 W = [(a + 0, aroundV (b + W))] := by unfold cand; rw [if_pos ⟨.inr (by omega), q⟩]
  rw [e, c1, c2, c3]
  rfl
theorem hAll_len (a b H W : Int) (hH : 0 < H ∧ H ≤ 36000) (hW : 0 < W) (ha : okN a) : (hAll a b H W 0).length = 5 ∨ (hAll a b H W 0).length = 8 := by
  have e : hAll a b H W 0 = hRow a b W (-H) 0 ++ (hRow a b W 0 0 ++ (hRow a b W H 0 ++ [])) := rfl
  have h0 : okN (a + 0) := by rw [Int.add_zero]; exact ha
  rw [e]
  simp only [List.length_append, List.length_nil, hRow_len a b W (-H) hW (by omega), hRow_len a b W H hW (by omega), hRow_len0 a b W hW h0]
  by_cases q1 : okN (a + -H)
  · rw [if_pos q1]
    by_cases q2 : okN (a + H)
    · rw [if_pos q2]; omega
    · rw [if_neg q2]; omega
  · have q2 : okN (a + H) := by unfold okN at *; omega
    rw [if_neg q1, if_pos q2]; omega
theorem mem_hAll (a b H W : Int) (p : Int × Int) : p ∈ hAll a b H W 0 ↔ ∃ i < 3, ∃ j < 3, (three H i ≠ 0 ∨ three W j ≠ 0) ∧ okN (a + three H i) ∧ p = (a + three H i, aroundV (b + three W j)) := by
  unfold hAll hRow
  simp only [List.drop_zero, List.mem_flatMap, List.mem_range]
  constructor
  · rintro ⟨i, hi, j, hj, h⟩
    unfold cand at h
    split at h
    · rename_i q
      exact ⟨i, hi, j, hj, q.1, q.2, by simpa using h⟩
    · cases h
  · rintro ⟨i, hi, j, hj, h1, h2, h3⟩
    refine ⟨i, hi, j, hj, ?_⟩
    unfold cand
    rw [if_pos ⟨h1, h2⟩, h3]
    simp
theorem Beside_both (N E : Int) (m : Nat) (h : inW N E) (hm : m = 2 ∨ m = 4 ∨ m = 6) : ∃ R : List ByteArray, R.length ≤ 8 ∧ Ev (fun k => place_Beside.f k (loc N E m)) (R, 0) ∧ Ev (fun k => pileref1_BesideOf.f k (loc N E m)) R := by
  have hb := hOf_bd m
  have hs := loc_size N E m (by omega)
  have l1 : (-324000 ≤ loN N m ∧ loN N m ≤ 323999) ∧ (loN N m + 324000) % hOf m = 0 := by
    unfold loN inW at *
    rcases hOf_cases m with q | q | q <;> rw [q] <;> omega
  have l2 : (-648000 ≤ loE E m ∧ loE E m ≤ 647999) ∧ (loE E m + 648000) % (2 * hOf m) = 0 := by
    unfold loE inW at *
    rcases hOf_cases m with q | q | q <;> rw [q] <;> omega
  have hlen := hAll_len (loN N m) (loE E m) (hOf m) (2 * hOf m) (by omega) (by omega) l1.1
  have hgrid : ∀ p ∈ hAll (loN N m) (loE E m) (hOf m) (2 * hOf m) 0, onGrid m p ∧ okN p.1 := fun p hp => by
    obtain ⟨i, hi, j, hj, q1, q2, q3⟩ := (mem_hAll _ _ _ _ _).1 hp
    rw [q3]
    exact ⟨cand_grid m _ _ l1 l2 i j hi hj q2, q2⟩
  obtain ⟨r, hp, hl, es, et⟩ := SortBoth_ev (phi m) _ hlen (fun p hp q hq => cmp_grid m hm p q (hgrid p hp).1 (hgrid q hq).1)
  have hrl : r.length ≤ 8 := by omega
  have hR : ∀ p ∈ r, Right p.1 p.2 ∧ p.1 ≤ 323999 := fun p hpm => by
    obtain ⟨i, hi, j, hj, q1, q2, q3⟩ := (mem_hAll _ _ _ _ _).1 (hp.mem_iff.1 hpm)
    have ab := aroundV_bd (loE E m + three (2 * hOf m) j)
    unfold okN at q2
    rw [q3]
    unfold Right
    simp only
    omega
  refine ⟨r.map (phi m), by rw [List.length_map]; exact hrl, ?_, ?_⟩
  · have hend := BesEnd (loc N E m) m hs hm r (by omega) hR r.length 0 (by omega)
    have h3 : Ev (fun k => place_Beside.l0 k (loc N E m) (2 * hOf m) [-hOf m, 0, hOf m] 3 3 (loN N m) (loE E m) (loN N m + hOf m) (loE E m + 2 * hOf m) (hAll (loN N m) (loE E m) (hOf m) (2 * hOf m) 0)) (r.map (phi m), 0) := by
      refine Ev.succ ?_
      simp only [place_Beside.l0]
      exact Ev.neg (by omega) (Ev.bind es (Ev.pos hl hend))
    have h0 := BesOut (loc N E m) (loN N m) (loE E m) (loN N m + hOf m) (loE E m + 2 * hOf m) (hOf m) (2 * hOf m) (by omega) (by omega) (by omega) (by omega) (hAll (loN N m) (loE E m) (hOf m) (2 * hOf m) 0) (by omega) _ h3 3 0 [] (by omega) rfl
    unfold place_Beside.f
    refine Ev.bind (IsLocator_ev _ (loc_ok N E m h hm)) (Ev.pos rfl (Ev.bind (area_ev N E m h hm) ?_))
    have e1 : N - N % hOf m - 324000 = loN N m := rfl
    have e2 : E - E % (2 * hOf m) - 648000 = loE E m := rfl
    simp only [e1, e2]
    have w1 : wrap64 (loE E m + 2 * hOf m - loE E m) = 2 * hOf m := by rw [wrap_id (by omega) (by omega)]; omega
    have w2 : wrap64 (loN N m + hOf m - loN N m) = hOf m := by rw [wrap_id (by omega) (by omega)]; omega
    have w3 : wrap64 (0 - hOf m) = -hOf m := by rw [wrap_id (by omega) (by omega)]; omega
    rw [w1, w2, w3]
    exact h0
  · have h3 : Ev (fun k => pileref1_BesideOf.l0 k (loc N E m) (2 * hOf m) 2 (loN N m + hOf m / 2) (loE E m + hOf m) ((hAll (loN N m) (loE E m) (hOf m) (2 * hOf m) 0).map (phi m))) (r.map (phi m)) := by
      refine Ev.succ ?_
      simp only [pileref1_BesideOf.l0]
      exact Ev.neg (by omega) (Ev.bind et (Ev.pos (by rw [List.length_map, List.length_map]; exact hl) (Ev.now _)))
    have h0 := BesOfOut (loc N E m) m hs hm (loN N m) (loE E m) l1 l2 _ (by omega) _ h3 3 0 [] (by omega) rfl
    unfold pileref1_BesideOf.f
    refine Ev.bind (middle_both N E m h hm).2 ?_
    rw [hs, sizeOf_h m hm]
    exact h0
end Go.EV.Pure
namespace Go.EV.Pure
open Go Go.EV Go.RowKit
set_option linter.unusedSimpArgs false
/-! Squares: a map's keys, sorted, are the list, sorted and made compact. -/
theorem keeps_iff {α : Type} [DecidableEq α] [Inhabited α] (d : Array α) (m : Nat) : Lib.keeps d m = true ↔ (m = 0 ∨ d[m]! ≠ d[m - 1]!) := by
  rcases Nat.eq_zero_or_pos m with h | h
  · subst h
    exact ⟨fun _ => .inl rfl, fun _ => Lib.keeps_lt_one d 0 (by omega)⟩
  · constructor
    · intro hk
      refine .inr fun e => ?_
      rw [Lib.keeps_neg h e] at hk
      cases hk
    · rintro (h0 | h0)
      · omega
      · exact Lib.keeps_pos h0
theorem leT (a b c : List UInt8) (h1 : leB a b = true) (h2 : leB b c = true) : leB a c = true := by
  simp only [leB, decide_eq_true_eq] at *
  exact List.le_trans h1 h2
theorem leA (a b : List UInt8) (h1 : leB a b = true) (h2 : leB b a = true) : a = b := by
  simp only [leB, decide_eq_true_eq] at *
  exact List.le_antisymm h1 h2
theorem leR (a : List UInt8) : leB a a = true := by
  simp only [leB, decide_eq_true_eq]
  exact List.le_refl a
theorem leTot (a b : List UInt8) : (leB a b || leB b a) = true := by
  simp only [leB, Bool.or_eq_true, decide_eq_true_eq]
  exact List.le_total a b
/-- What is kept of a sorted row: each one once, in order. -/
theorem compact_run (d : Array (List UInt8)) (hs : ∀ i j, i ≤ j → j < d.size → leB d[i]! d[j]! = true) : ∀ m, m ≤ d.size →
    (Lib.compactUpTo d m).Pairwise (fun a b => leB a b = true ∧ a ≠ b) ∧ (∀ x, x ∈ Lib.compactUpTo d m ↔ ∃ j < m, d[j]! = x) := by
  intro m
  induction m with
  | zero =>
    intro _
    have : Lib.compactUpTo d 0 = [] := rfl
    rw [this]
    exact ⟨List.Pairwise.nil, fun x => ⟨fun h => (by cases h), fun ⟨j, hj, _⟩ => (by omega)⟩⟩
  | succ m ih =>
    intro hm
    obtain ⟨p, q⟩ := ih (by omega)
    rw [Lib.compactUpTo_succ]
    by_cases hk : Lib.keeps d m = true
    · rw [if_pos hk]
      constructor
      · refine List.pairwise_append.2 ⟨p, List.pairwise_singleton _ _, fun a ha b hb => ?_⟩
        rw [List.mem_singleton] at hb
        subst hb
        obtain ⟨j, hj, rfl⟩ := (q a).1 ha
        have h1 := hs j m (by omega) (by omega)
        refine ⟨h1, fun e => ?_⟩
        rcases (keeps_iff d m).1 hk with h0 | h0
        · omega
        · have h2 := hs j (m - 1) (by omega) (by omega)
          have h3 := hs (m - 1) m (by omega) (by omega)
          rw [e] at h2
          exact h0 (leA _ _ h2 h3)
      · intro x
        rw [List.mem_append, List.mem_singleton, q x]
        constructor
        · rintro (⟨j, hj, e⟩ | rfl)
          · exact ⟨j, by omega, e⟩
          · exact ⟨m, by omega, rfl⟩
        · rintro ⟨j, hj, e⟩
          rcases Nat.lt_or_ge j m with h | h
          · exact .inl ⟨j, h, e⟩
          · obtain rfl : j = m := by omega
            exact .inr e.symm
    · rw [if_neg hk, List.append_nil]
      refine ⟨p, fun x => ?_⟩
      rw [q x]
      constructor
      · rintro ⟨j, hj, e⟩
        exact ⟨j, by omega, e⟩
      · rintro ⟨j, hj, e⟩
        rcases Nat.lt_or_ge j m with h | h
        · exact ⟨j, h, e⟩
        · obtain rfl : j = m := by omega
          have hn : ¬ (j = 0 ∨ d[j]! ≠ d[j - 1]!) := fun h => hk ((keeps_iff d j).2 h)
          have h0 : j ≠ 0 := fun e => hn (.inl e)
          have h1 : d[j]! = d[j - 1]! := Classical.byContradiction fun e => hn (.inr e)
          exact ⟨j - 1, by omega, by rw [← h1, e]⟩
theorem sorted_get (L : List (List UInt8)) (hL : L.Pairwise fun a b => leB a b = true) : ∀ i j, i ≤ j → j < L.toArray.size → leB L.toArray[i]! L.toArray[j]! = true := by
  intro i j hij hj
  have hj' : j < L.length := by simpa using hj
  have e1 : L.toArray[i]! = L[i] := by simp [show i < L.length by omega]
  have e2 : L.toArray[j]! = L[j] := by simp [hj']
  rw [e1, e2]
  rcases Nat.lt_or_ge i j with h | h
  · exact List.pairwise_iff_getElem.1 hL i j (by omega) hj' h
  · obtain rfl : i = j := by omega
    exact leR _
theorem once_keys (K M : List (List UInt8)) (hK : K.Nodup) (hm : ∀ x, x ∈ K ↔ x ∈ M) : K.mergeSort leB = Lib.compact (M.mergeSort leB) := by
  have hs := List.pairwise_mergeSort leT leTot M
  have hr := compact_run (M.mergeSort leB).toArray (sorted_get _ hs) (M.mergeSort leB).length (by simp)
  obtain ⟨p, q⟩ := hr
  have hnd : (Lib.compact (M.mergeSort leB)).Nodup := p.imp fun h => h.2
  have hmem : ∀ x, x ∈ Lib.compact (M.mergeSort leB) ↔ x ∈ M := fun x => by
    show x ∈ Lib.compactUpTo _ _ ↔ _
    rw [q x, ← List.mem_mergeSort (le := leB)]
    constructor
    · rintro ⟨j, hj, rfl⟩
      have : (M.mergeSort leB).toArray[j]! = (M.mergeSort leB)[j] := by simp [show j < M.length by simpa using hj]
      rw [this]
      exact List.getElem_mem _
    · intro hx
      obtain ⟨j, hj, rfl⟩ := List.getElem_of_mem hx
      exact ⟨j, hj, by simp [show j < M.length by simpa using hj]⟩
  have hnK : (K.mergeSort leB).Nodup := (List.mergeSort_perm K leB).nodup_iff.2 hK
  refine List.Perm.eq_of_pairwise (le := fun a b => leB a b = true) (fun a b _ _ h1 h2 => leA a b h1 h2) (List.pairwise_mergeSort leT leTot K) (p.imp fun h => h.1) ?_
  refine (List.perm_ext_iff_of_nodup hnK hnd).2 fun x => ?_
  rw [List.mem_mergeSort, hm x, hmem x]
theorem data_inj {a b : ByteArray} (h : a.data.toList = b.data.toList) : a = b := by
  apply ByteArray.ext
  exact Array.toList_inj.1 h
theorem sort_once (K M : List ByteArray) (hK : K.Nodup) (hm : ∀ x, x ∈ K ↔ x ∈ M) : compS (sortB M) = sortB K := by
  unfold compS sortB
  rw [map_mk_data, once_keys (K.map fun s => s.data.toList) (M.map fun s => s.data.toList)]
  · exact List.nodup_iff_pairwise_ne.2 (List.pairwise_map.2 (hK.imp fun hne e => hne (data_inj e)))
  · intro x
    rw [List.mem_map, List.mem_map]
    constructor
    · rintro ⟨a, ha, rfl⟩
      exact ⟨a, (hm a).1 ha, rfl⟩
    · rintro ⟨a, ha, rfl⟩
      exact ⟨a, (hm a).2 ha, rfl⟩
def sqOK (L : List ByteArray) : Prop := ∀ s ∈ L, locOK s ∧ ¬ s.size = 2
instance (L : List ByteArray) : Decidable (sqOK L) := by unfold sqOK; infer_instance
theorem Squares_ev (L : List ByteArray) (hL : L.length ≤ 100) (hg : ∀ s ∈ L, s.size ≤ 100) :
    ∃ r, Ev (fun k => place_Squares.f k L) r ∧ (¬ sqOK L → r = ([], 3)) ∧ (sqOK L → r = (compS (sortB (L.map fun s => s.extract 0 4)), 0)) := by
  obtain ⟨v, ⟨hv1, hv2⟩, hv⟩ := loop L (fun k i (o : List (ByteArray × Bool)) => place_Squares.l0 k L i o)
    (fun i o => (o.map Prod.fst).Nodup ∧ (∀ s ∈ o.map Prod.fst, s.size ≤ 100) ∧ o.length ≤ i ∧ (∀ x, x ∈ o.map Prod.fst ↔ x ∈ (L.take i).map fun s => s.extract 0 4) ∧ ∀ s ∈ L.take i, locOK s ∧ ¬ s.size = 2)
    (fun v => (¬ sqOK L → v = ([], 3)) ∧ (sqOK L → v = (compS (sortB (L.map fun s => s.extract 0 4)), 0)))
    (fun i o hi ⟨o1, o2, o3, o4, o5⟩ => by
      have hI := IsLocator_any L[i]
      have hmem : L[i] ∈ L := List.getElem_mem hi
      by_cases c : locOK L[i]
      · by_cases c2 : L[i].size = 2
        · refine .inr ⟨([], 3), ⟨fun _ => rfl, fun h => absurd c2 (h _ hmem).2⟩, Ev.succ ?_⟩
          simp only [place_Squares.l0, rdE_get eS L i hi]
          exact Ev.pos (by omega) (Ev.pos (by omega) (Ev.pos (by omega) (Ev.bind hI (Ev.pos (by simpa using c) (Ev.pos (by omega) (Ev.now _))))))
        · have hk := mput_keys o (L[i].extract 0 4) true
          have hsz := c.1
          refine .inl ⟨mput o (L[i].extract 0 4) true, ⟨?_, ?_, ?_, fun x => ?_, fun s hs => ?_⟩, fun v hv => Ev.succ ?_⟩
          · rw [hk]
            split
            · exact o1
            · rename_i hn
              exact List.nodup_append.2 ⟨o1, by simp, fun a ha b hb => by rw [List.mem_singleton] at hb; rw [hb]; exact fun e => hn (e ▸ ha)⟩
          · rw [hk]
            intro s hs
            split at hs
            · exact o2 s hs
            · rcases List.mem_append.1 hs with h | h
              · exact o2 s h
              · rw [List.mem_singleton] at h
                rw [h, ByteArray.size_extract]
                omega
          · unfold mput
            split
            · rw [List.length_set]; omega
            · simp; omega
          · rw [hk, List.take_succ_eq_append_getElem hi, List.map_append, List.map_cons, List.map_nil, List.mem_append, List.mem_singleton, ← o4 x]
            split
            · rename_i hin
              exact ⟨fun h => .inl h, fun h => h.elim id (fun e => e ▸ hin)⟩
            · rw [List.mem_append, List.mem_singleton]
          · rw [List.take_succ_eq_append_getElem hi] at hs
            rcases List.mem_append.1 hs with h | h
            · exact o5 s h
            · rw [List.mem_singleton] at h
              rw [h]
              exact ⟨c, c2⟩
          · simp only [place_Squares.l0, rdE_get eS L i hi, wrap_succ (show i ≤ 1000000000000000 by omega)]
            exact Ev.pos (by omega) (Ev.pos (by omega) (Ev.pos (by omega) (Ev.bind hI (Ev.pos (by simpa using c) (Ev.neg (by omega) (Ev.pos (by omega) hv))))))
      · refine .inr ⟨([], 3), ⟨fun _ => rfl, fun h => absurd (h _ hmem).1 c⟩, Ev.succ ?_⟩
        simp only [place_Squares.l0, rdE_get eS L i hi]
        exact Ev.pos (by omega) (Ev.pos (by omega) (Ev.pos (by omega) (Ev.bind hI (Ev.neg (by simpa using c) (Ev.now _))))))
    (fun o ⟨o1, o2, o3, o4, o5⟩ => by
      rw [List.take_length] at o4 o5
      have hS : slices_Sorted_string_of_maps_Keys_map_string_bool_string_bool_1.f o = some (sortB (o.map Prod.fst)) := by
        unfold slices_Sorted_string_of_maps_Keys_map_string_bool_string_bool_1.f
        rw [if_pos ⟨o1, fun s hs => Nat.le_trans (o2 s hs) (by decide), by omega⟩]
      refine ⟨(sortB (o.map Prod.fst), 0), ⟨fun h => absurd o5 h, fun _ => by rw [sort_once (o.map Prod.fst) _ o1 o4]⟩, Ev.succ ?_⟩
      simp only [place_Squares.l0, maps_Keys_map_string_bool_string_bool.f, hS, Option.bind_some]
      exact Ev.neg (by omega) (Ev.now _))
    0 [] (by omega) ⟨by simp, by simp, by simp, by simp, by simp⟩
  refine ⟨v, ?_, hv1, hv2⟩
  unfold place_Squares.f
  exact Ev.neg (by omega) hv
theorem SquaresFault_ev (L : List ByteArray) (hL : L.length ≤ 100) (ha : ∀ s ∈ L, asciiT s = true) : Ev (fun k => pileref1_SquaresFault.f k L) (if sqOK L then 0 else 3) := by
  have one : ∀ s ∈ L, Ev (fun k => pileref1_SquaresFault_1.f k s) (!decide (locOK s ∧ ¬ s.size = 2)) := fun s hs => by
    unfold pileref1_SquaresFault_1.f
    refine Ev.bind (LocatorRight_any s (ha s hs)) ?_
    by_cases c : locOK s
    · have e : (!decide (locOK s ∧ ¬ s.size = 2)) = decide ((s.size : Int) = 2) := by
        by_cases c2 : s.size = 2
        · simp [c, c2]
        · have : ¬ (s.size : Int) = 2 := by omega
          simp [c, c2, this]
      rw [e]
      exact Ev.pos (by simpa using c) (Ev.now _)
    · have e : (!decide (locOK s ∧ ¬ s.size = 2)) = true := by simp [c]
      rw [e]
      exact Ev.neg (by simpa using c) (Ev.now _)
  obtain ⟨v, hp, hv⟩ := loop L (fun k i (_ : Unit) => slices_IndexFunc_string_string_of_pileref1_SquaresFault_1.l0 k L i) (fun i _ => ∀ j (h : j < L.length), j < i → locOK L[j] ∧ ¬ L[j].size = 2) (fun v => v ≥ 0 ↔ ¬ sqOK L)
    (fun i _ hi hj => by
      have h1 := one L[i] (List.getElem_mem hi)
      by_cases c : locOK L[i] ∧ ¬ L[i].size = 2
      · refine .inl ⟨(), fun j h hji => ?_, fun v hv => Ev.succ ?_⟩
        · rcases Nat.lt_or_ge j i with h2 | h2
          · exact hj j h h2
          · obtain rfl : j = i := by omega
            exact c
        · simp only [slices_IndexFunc_string_string_of_pileref1_SquaresFault_1.l0, rdE_get eS L i hi, wrap_succ (show i ≤ 1000000000000000 by omega)]
          exact Ev.pos (by omega) (Ev.pos (by omega) (Ev.pos (by omega) (Ev.bind h1 (Ev.neg (by simp [c]) hv))))
      · refine .inr ⟨(i : Int), ⟨fun _ h => c (h _ (List.getElem_mem hi)), fun _ => by omega⟩, Ev.succ ?_⟩
        simp only [slices_IndexFunc_string_string_of_pileref1_SquaresFault_1.l0, rdE_get eS L i hi]
        exact Ev.pos (by omega) (Ev.pos (by omega) (Ev.pos (by omega) (Ev.bind h1 (Ev.pos (by rw [Bool.not_eq_true', decide_eq_false_iff_not]; exact c) (Ev.now _))))))
    (fun _ hj => ⟨-1, ⟨fun h => by omega, fun h => absurd (fun s hs => by
      obtain ⟨j, h2, rfl⟩ := List.getElem_of_mem hs
      exact hj j h2 h2) h⟩, Ev.step (f := fun _ => some _) (fun k => by simp only [slices_IndexFunc_string_string_of_pileref1_SquaresFault_1.l0]; rw [if_neg (by omega)]) (Ev.now _)⟩)
    0 () (by omega) (fun j h h2 => by omega)
  unfold pileref1_SquaresFault.f slices_ContainsFunc_string_string_of_pileref1_SquaresFault_1.f slices_IndexFunc_string_string_of_pileref1_SquaresFault_1.f
  refine Ev.neg (by omega) (Ev.bind (Ev.bind hv (Ev.now _)) ?_)
  by_cases c : sqOK L
  · rw [if_pos c]
    exact Ev.neg (by simp only [decide_eq_true_eq]; exact fun h => hp.1 h c) (Ev.now _)
  · rw [if_neg c]
    exact Ev.pos (by simp only [decide_eq_true_eq]; exact hp.2 c) (Ev.now _)
theorem SquaresOf_ev (L : List ByteArray) (hL : L.length ≤ 100) (hs : sqOK L) : Ev (fun k => pileref1_SquaresOf.f k L) (compS (sortB (L.map fun s => s.extract 0 4))) := by
  obtain ⟨v, rfl, hv⟩ := loop L (fun k i (o : List ByteArray) => pileref1_SquaresOf.l0 k L i o) (fun i o => o = (L.take i).map fun s => s.extract 0 4) (fun v => v = compS (sortB (L.map fun s => s.extract 0 4)))
    (fun i o hi ho => .inl ⟨o ++ [L[i].extract 0 4], by rw [ho, List.take_succ_eq_append_getElem hi, List.map_append]; rfl, fun v hv => Ev.succ (by
      have h1 := hs _ (List.getElem_mem hi)
      have h2 := h1.1.1
      have hol : o.length ≤ 100 := by rw [ho, List.length_map, List.length_take]; omega
      simp only [pileref1_SquaresOf.l0, rdE_get eS L i hi, wrap_succ (show i ≤ 1000000000000000 by omega)]
      exact Ev.pos (by omega) (Ev.pos (by omega) (Ev.pos (by omega) (Ev.pos (by omega) (Ev.pos (by omega) hv)))))⟩)
    (fun o ho => ⟨_, rfl, by
      rw [List.take_length] at ho
      have hol : o.length ≤ 100 := by rw [ho, List.length_map]; exact hL
      have h1 : pileref1_once.f o = some (compS (sortB o)) := by
        unfold pileref1_once.f slices_Clone_string_string.f slices_Sort_string_string.f slices_Compact_string_string.f
        rw [if_pos (by simp; omega)]
        simp only [Option.bind_some, List.nil_append]
        rw [if_pos (by omega)]
        simp only [Option.bind_some]
        rw [if_pos (sortB_len o).symm, if_pos (by rw [sortB_len]; omega)]
        rfl
      refine Ev.succ ?_
      simp only [pileref1_SquaresOf.l0, h1, Option.bind_some]
      rw [← ho]
      exact Ev.neg (by omega) (Ev.now _)⟩)
    0 [] (by omega) (by simp)
  unfold pileref1_SquaresOf.f
  exact hv
end Go.EV.Pure
namespace Go.EV.Pure
open Go Go.EV Go.RowKit
set_option linter.unusedSimpArgs false
set_option maxRecDepth 100000
theorem EqualStr_self (D : List ByteArray) (hl : D.length ≤ 20000) : Ev (fun k => slices_Equal_string_string.f k D D) true := by
  obtain ⟨v, rfl, hv⟩ := loop D (fun k i (_ : Unit) => slices_Equal_string_string.l0 k D D i) (fun _ _ => True) (fun v => v = true)
    (fun i _ hi _ => .inl ⟨(), trivial, fun v hv => Ev.step (fun k => by
      simp only [slices_Equal_string_string.l0]
      rw [if_pos (by omega), if_pos (by omega), if_pos (by omega), if_pos (by omega), if_pos (by omega), if_pos trivial, wrap_succ (by omega)]) hv⟩)
    (fun _ _ => ⟨true, rfl, Ev.step (f := fun _ => some _) (fun k => by simp only [slices_Equal_string_string.l0]; rw [if_neg (by omega)]) (Ev.now _)⟩) 0 () (by omega) trivial
  unfold slices_Equal_string_string.f
  exact Ev.pos rfl hv
theorem OrErr_two (a b : Int) : Ev (fun k => cmp_Or_api_Errno.f k [a, b]) (if a = 0 then b else a) := by
  have r0 : rd [a, b] 0 = a := rfl
  have r1 : rd [a, b] 1 = b := rfl
  have w3 : wrap64 (0 + 1) = 1 := wrap_id (by omega) (by omega)
  have w4 : wrap64 (1 + 1) = 2 := wrap_id (by omega) (by omega)
  unfold cmp_Or_api_Errno.f
  refine Ev.succ ?_
  simp only [cmp_Or_api_Errno.l0, r0, w3]
  refine Ev.pos (by simp) (Ev.pos (by omega) (Ev.pos (by simp) ?_))
  by_cases c : a = 0
  · rw [if_pos c]
    refine Ev.pos c (Ev.succ ?_)
    simp only [cmp_Or_api_Errno.l0, r1, w4]
    refine Ev.pos (by simp) (Ev.pos (by omega) (Ev.pos (by simp) ?_))
    by_cases c2 : b = 0
    · refine Ev.pos c2 (Ev.succ ?_)
      simp only [cmp_Or_api_Errno.l0]
      rw [c2]
      exact Ev.neg (by simp) (Ev.now _)
    · exact Ev.neg c2 (Ev.now _)
  · rw [if_neg c]
    exact Ev.neg c (Ev.now _)
def withinV (a b : ByteArray) : Bool := decide (b.size ≤ a.size ∧ a.extract 0 b.size = b)
theorem Within_ev (a b : ByteArray) : Ev (fun k => place_Within.f k a b) (if locOK a ∧ locOK b then (withinV a b, 0) else (false, 3)) := by
  unfold place_Within.f
  refine Ev.bind (IsLocator_any a) ?_
  by_cases ca : locOK a
  · refine Ev.pos (by simpa using ca) (Ev.bind (IsLocator_any b) ?_)
    by_cases cb : locOK b
    · rw [if_pos (show locOK a ∧ locOK b from ⟨ca, cb⟩)]
      refine Ev.pos (by simpa using cb) ?_
      by_cases c : (a.size : Int) ≥ (b.size : Int)
      · have e : withinV a b = decide (a.extract 0 ((b.size : Int)).toNat = b) := by
          unfold withinV
          rw [Int.toNat_natCast]
          simp [show b.size ≤ a.size by omega]
        rw [e]
        exact Ev.pos c (Ev.pos (by omega) (Ev.pos (by omega) (Ev.now _)))
      · have e : withinV a b = false := by
          unfold withinV
          simp [show ¬ b.size ≤ a.size by omega]
        rw [e]
        exact Ev.neg c (Ev.now _)
    · rw [if_neg (show ¬ (locOK a ∧ locOK b) from fun h => cb h.2)]
      exact Ev.neg (by simpa using cb) (Ev.now _)
  · rw [if_neg (show ¬ (locOK a ∧ locOK b) from fun h => ca h.1)]
    exact Ev.neg (by simpa using ca) (Ev.now _)
theorem WithinOf_eq (a b : ByteArray) : pileref1_WithinOf.f a b = some (withinV a b) := by
  unfold pileref1_WithinOf.f strings_HasPrefix.f internal_stringslite_HasPrefix.f
  by_cases c : (a.size : Int) ≥ (b.size : Int)
  · have e : withinV a b = decide (a.extract 0 ((b.size : Int)).toNat = b) := by
      unfold withinV
      rw [Int.toNat_natCast]
      simp [show b.size ≤ a.size by omega]
    rw [if_pos c, if_pos (by omega), if_pos (by omega), e]
    rfl
  · have e : withinV a b = false := by
      unfold withinV
      simp [show ¬ b.size ≤ a.size by omega]
    rw [if_neg c, e]
    rfl
theorem placed_ev : Ev (fun k => (pilelaw1_placed.f k).bind fun r => Option.some r) true := Ev.bind (Ev.from (f := fun k => pilelaw1_placed.f k) (v := true) 60 fun k => (by kernel_rfl : pilelaw1_placed.f (k + 60) = some true)) (Ev.now _)
/-- The law's last part: squares. -/
theorem found_sq (L : List ByteArray) (hL : L.length ≤ 100) (hg : ∀ s ∈ L, GS 20 s) : Ev (fun k => (place_Squares.f k L).bind fun r54 => ((pileref1_SquaresFault.f k L).bind fun r55 => (if r55 = 0 then (if r54.2 = 0 then ((pileref1_SquaresOf.f k L).bind fun r59 => ((slices_Equal_string_string.f k r54.1 r59).bind fun r60 => (if r60 = true then ((pilelaw1_placed.f k ).bind fun r61 => Option.some r61) else Option.some false))) else Option.some false) else (if r54.2 = r55 then (if (r54.1.length : Int) = 0 then ((pilelaw1_placed.f k ).bind fun r56 => Option.some r56) else Option.some false) else Option.some false)))) true := by
  obtain ⟨r, h1, h2, h3⟩ := Squares_ev L hL (fun s hs => Nat.le_trans (hg s hs).2 (by omega))
  have h4 := SquaresFault_ev L hL (fun s hs => (hg s hs).1)
  by_cases c : sqOK L
  · have e := h3 c
    subst e
    rw [if_pos c] at h4
    have hc : (compS (sortB (L.map fun s => s.extract 0 4))).length ≤ 20000 := by
      have := compS_len (sortB (L.map fun s => s.extract 0 4))
      rw [sortB_len, List.length_map] at this
      omega
    exact Ev.bind h1 (Ev.bind h4 (Ev.pos rfl (Ev.pos rfl (Ev.bind (SquaresOf_ev L hL c) (Ev.bind (EqualStr_self _ hc) (Ev.pos rfl placed_ev))))))
  · have e := h2 c
    subst e
    rw [if_neg c] at h4
    exact Ev.bind h1 (Ev.bind h4 (Ev.neg (by omega) (Ev.pos rfl (Ev.pos rfl placed_ev))))
theorem found_tail (a b : ByteArray) (hb : GS 20 b) (L : List ByteArray) (hL : L.length ≤ 100) (hg : ∀ s ∈ L, GS 20 s) : Ev (fun k => (place_Within.f k a b).bind fun r50 => ((pileref1_LocatorFault.f k b).bind fun r51 => ((cmp_Or_api_Errno.f k [(if locOK a then 0 else 3), r51]).bind fun r52 => (if r50.2 = r52 then (if r52 = 0 then ((pileref1_WithinOf.f a b).bind fun r53 => (if (!(r50.1 == r53)) = true then Option.some false else ((place_Squares.f k L).bind fun r54 => ((pileref1_SquaresFault.f k L).bind fun r55 => (if r55 = 0 then (if r54.2 = 0 then ((pileref1_SquaresOf.f k L).bind fun r59 => ((slices_Equal_string_string.f k r54.1 r59).bind fun r60 => (if r60 = true then ((pilelaw1_placed.f k ).bind fun r61 => Option.some r61) else Option.some false))) else Option.some false) else (if r54.2 = r55 then (if (r54.1.length : Int) = 0 then ((pilelaw1_placed.f k ).bind fun r56 => Option.some r56) else Option.some false) else Option.some false)))))) else (if (!(r50.1 == false)) = true then Option.some false else ((place_Squares.f k L).bind fun r66 => ((pileref1_SquaresFault.f k L).bind fun r67 => (if r67 = 0 then (if r66.2 = 0 then ((pileref1_SquaresOf.f k L).bind fun r71 => ((slices_Equal_string_string.f k r66.1 r71).bind fun r72 => (if r72 = true then ((pilelaw1_placed.f k ).bind fun r73 => Option.some r73) else Option.some false))) else Option.some false) else (if r66.2 = r67 then (if (r66.1.length : Int) = 0 then ((pilelaw1_placed.f k ).bind fun r68 => Option.some r68) else Option.some false) else Option.some false)))))) else Option.some false)))) true := by
  have h0 := found_sq L hL hg
  refine Ev.bind (Within_ev a b) (Ev.bind (LocatorFault_any b hb.1) (Ev.bind (OrErr_two _ _) ?_))
  by_cases ca : locOK a
  · by_cases cb : locOK b
    · simp only [if_pos ca, if_pos cb, if_pos (And.intro ca cb), if_true, WithinOf_eq, Option.bind_some]
      exact Ev.neg (by simp) h0
    · simp only [if_pos ca, if_neg cb, if_neg (fun h : locOK a ∧ locOK b => cb h.2), if_true]
      exact Ev.neg (by omega) (Ev.neg (by simp) h0)
  · simp only [if_neg ca, if_neg (fun h : locOK a ∧ locOK b => ca h.1), if_neg (show ¬ (3 : Int) = 0 by omega), if_true]
    exact Ev.neg (by simp) h0
theorem found_j16 (a b : ByteArray) (hb : GS 20 b) (L : List ByteArray) (hL : L.length ≤ 100) (hg : ∀ s ∈ L, GS 20 s) (n e q : Int) (hq : q = 2 ∨ q = 4 ∨ q = 6 ∨ q = 3) :
    Ev (fun k => pilelaw1_LocatorsFound.j16 k a b q L n e (if (-324000 ≤ n ∧ n ≤ 324000) ∧ -648000 ≤ e ∧ e ≤ 647999 then 0 else 1) (if locOK a then 0 else 3)) true := by
  have hT := found_tail a b hb L hL hg
  refine Ev.succ ?_
  simp only [pilelaw1_LocatorsFound.j16]
  have hwhen : pilelaw1_when.f (decide (q = 3)) 1 = some (if q = 3 then 1 else 0) := by
    unfold pilelaw1_when.f
    by_cases c : q = 3 <;> simp [c]
  by_cases cs : (-324000 ≤ n ∧ n ≤ 324000) ∧ -648000 ≤ e ∧ e ≤ 647999
  · by_cases c3 : q = 3
    · have hl : Ev (fun k => place_Locator.f k n e q) ((⟨#[]⟩ : ByteArray), 1) := by
        unfold place_Locator.f
        simp only [CheckSite_eq, Option.bind_some]
        exact Ev.pos (if_pos cs) (Ev.neg (by omega) (Ev.neg (by omega) (Ev.neg (by omega) (Ev.now _))))
      refine Ev.bind hl ?_
      simp only [hwhen, Option.bind_some, if_pos cs, if_pos c3]
      refine Ev.bind (OrErr_two _ _) ?_
      simp only [if_true]
      exact Ev.neg (by omega) (Ev.neg (by omega) hT)
    · obtain ⟨m, rfl⟩ : ∃ m : Nat, q = m := ⟨q.toNat, by omega⟩
      have hm : m = 2 ∨ m = 4 ∨ m = 6 := by omega
      refine Ev.bind (Locator_ev n e cs m hm) ?_
      simp only [hwhen, Option.bind_some, if_pos cs, if_neg c3]
      refine Ev.bind (OrErr_two _ _) ?_
      simp only [if_true]
      exact Ev.bind (LocatorFor_ev n e cs m hm) (Ev.pos rfl hT)
  · have hl : Ev (fun k => place_Locator.f k n e q) ((⟨#[]⟩ : ByteArray), 1) := by
      unfold place_Locator.f
      simp only [CheckSite_eq, Option.bind_some, if_neg cs]
      exact Ev.neg (by omega) (Ev.now _)
    refine Ev.bind hl ?_
    simp only [hwhen, Option.bind_some, if_neg cs]
    refine Ev.bind (OrErr_two _ _) ?_
    simp only [if_neg (show ¬ (1 : Int) = 0 by omega), if_true]
    exact hT
theorem found_j5 (a b : ByteArray) (ha : GS 20 a) (hb : GS 20 b) (L : List ByteArray) (hL : L.length ≤ 100) (hg : ∀ s ∈ L, GS 20 s) (n e q : Int) (hq : q = 2 ∨ q = 4 ∨ q = 6 ∨ q = 3) :
    Ev (fun k => pilelaw1_LocatorsFound.j5 k a b q L n e) true := by
  have hJ := found_j16 a b hb L hL hg n e q hq
  refine Ev.succ ?_
  simp only [pilelaw1_LocatorsFound.j5, SiteFault_eq, CheckSite_eq, Option.bind_some]
  refine Ev.bind (LocatorFault_any a ha.1) (Ev.pos trivial (Ev.bind (IsLocator_any a) ?_))
  by_cases ca : locOK a
  · rw [if_pos ca] at hJ
    obtain ⟨N, E, hw, he, hm⟩ := loc_of a ca
    obtain ⟨m, hm0⟩ : ∃ m, m = a.size := ⟨_, rfl⟩
    rw [← hm0] at he hm
    have e1 := area_ev N E m hw hm
    have e2 := AreaFor_loc N E m hw hm
    obtain ⟨e3, e4⟩ := middle_both N E m hw hm
    obtain ⟨R, hR, e5, e6⟩ := Beside_both N E m hw hm
    rw [← he] at e1 e2 e3 e4 e5 e6
    have hI := IsLocator_any a
    have hA : Ev (fun k => place_AreaOf.f k a) (N - N % hOf m - 324000, E - E % (2 * hOf m) - 648000, N - N % hOf m - 324000 + hOf m, E - E % (2 * hOf m) - 648000 + 2 * hOf m, 0) := by
      unfold place_AreaOf.f
      exact Ev.bind hI (Ev.pos (by simpa using ca) (Ev.bind e1 (Ev.now _)))
    have hM : Ev (fun k => place_Middle.f k a) (loN N m + hOf m / 2, loE E m + hOf m, 0) := by
      unfold place_Middle.f
      exact Ev.bind hI (Ev.pos (by simpa using ca) (Ev.bind e3 (Ev.now _)))
    simp only [if_pos ca, ca, decide_true]
    refine Ev.neg (by simp) (Ev.bind hA (Ev.bind hM (Ev.bind e5 (Ev.pos rfl (Ev.pos rfl (Ev.bind e2 (Ev.pos (by simp) (Ev.pos rfl (Ev.bind e4 (Ev.pos (by simp) (Ev.pos rfl (Ev.bind e6 (Ev.bind (EqualStr_self R (by omega)) (Ev.pos rfl hJ))))))))))))))
  · rw [if_neg ca] at hJ
    have hI := IsLocator_any a
    have hA : Ev (fun k => place_AreaOf.f k a) (0, 0, 0, 0, 3) := by
      unfold place_AreaOf.f
      exact Ev.bind hI (Ev.neg (by simpa using ca) (Ev.now _))
    have hM : Ev (fun k => place_Middle.f k a) (0, 0, 3) := by
      unfold place_Middle.f
      exact Ev.bind hI (Ev.neg (by simpa using ca) (Ev.now _))
    have hB : Ev (fun k => place_Beside.f k a) ([], 3) := by
      unfold place_Beside.f
      exact Ev.bind hI (Ev.neg (by simpa using ca) (Ev.now _))
    simp only [if_neg ca, ca, decide_false]
    exact Ev.neg (by simp) (Ev.bind hA (Ev.bind hM (Ev.bind hB (Ev.neg (by first | (simp [ca]; done) | (trace_state; omega)) (Ev.pos rfl (Ev.pos rfl (Ev.pos rfl (Ev.pos (by simp) (Ev.pos (by simp) (Ev.neg (by simp) hJ))))))))))
theorem LocatorsFound (l : List Int) (hl : l.length ≤ 140737488351232) : ∃ k, pilelaw1_LocatorsFound.f k l = some true := by
  obtain ⟨n, e, s1, e1, a1, b1⟩ := SiteOf_spec l 0 (by omega) (by omega) hl
  obtain ⟨a, s2, e2, ha, a2, b2⟩ := LocatorText_spec l s1 (by omega) (by omega) hl
  obtain ⟨b, s3, e3, hb, a3, b3⟩ := LocatorText_spec l s2 (by omega) (by omega) hl
  obtain ⟨q, e4, hq⟩ := Pick_spec l s3 [2, 4, 6, 3] (by omega) (by omega) hl (by simp) (by simp)
  simp only [List.mem_cons, List.not_mem_nil, or_false] at hq
  obtain ⟨L, s5, e5, hg, hL, a5, b5⟩ := LocatorList_spec l (s3 + 1) 6 (by omega) (by omega) (by omega) hl
  obtain ⟨f, e6⟩ := Flip_spec l s5 3 (by omega) (by omega) (by omega) hl
  refine (Ev.bind e1 (Ev.bind e2 (Ev.bind e3 (Ev.bind e4 (Ev.bind e5 (Ev.bind e6 ?_)))))).ex
  by_cases c : f = true
  · refine Ev.pos c ?_
    by_cases c2 : (a.size : Int) > 2
    · have hx : GS 20 (a.extract 0 2) := ⟨ascii_ext ha.1 0 2, Nat.le_trans (ext_le a 0 2) ha.2⟩
      exact Ev.pos c2 (Ev.pos (by show (2 : Int) ≤ (a.size : Int); omega) (found_j5 a _ ha hx L (by omega) hg n e q (by omega)))
    · exact Ev.neg c2 (found_j5 a b ha hb L (by omega) hg n e q (by omega))
  · exact Ev.neg c (found_j5 a b ha hb L (by omega) hg n e q (by omega))
end Go.EV.Pure
