/- The plain law: the Lean functions answer true for every list. -/
import Derived.Test.YtonnpocamipbiaaGreatDoorXPlacesStay
import Derived.KernelRfl
import Derived.Lib.SlTrimSet
set_option linter.unusedVariables false
set_option linter.unusedSimpArgs false
/-! Plain laws that all statements use: numbers that don't wrap, functions with fuel, loops over lists, the stream's draws. -/
namespace Go.EV.Pure
open Go Go.EV Go.RowKit
theorem wrap_id {e : Int} (h1 : -9223372036854775808 ≤ e) (h2 : e ≤ 9223372036854775807) : wrap64 e = e := by
  unfold wrap64
  omega
theorem tmod_pos {a n : Int} (h : 0 ≤ a) : a.tmod n = a % n := Int.tmod_eq_emod_of_nonneg h
theorem tdiv_pos {a n : Int} (h : 0 ≤ a) : a.tdiv n = a / n := Int.tdiv_eq_ediv_of_nonneg h
theorem mn_eq (a b : Int) : mn a b = if b < a then b else a := rfl
theorem rdE_get {α : Type} (E : Enc α) (l : List α) (i : Nat) (h : i < l.length) : rdE E l (i : Int) = l[i] := by
  simp [rdE, List.getD, List.getElem?_eq_getElem h]
theorem rd_mem (l : List Int) (i : Int) (h0 : 0 ≤ i) (h1 : i < l.length) : rd l i ∈ l := by
  have h : i.toNat < l.length := by omega
  have : rd l i = l[i.toNat] := by simp [rd, List.getD, List.getElem?_eq_getElem h]
  rw [this]
  exact List.getElem_mem h
theorem wrap_succ {i : Nat} (h : i ≤ 1000000000000000) : wrap64 ((i : Int) + 1) = ((i + 1 : Nat) : Int) := by rw [wrap_id (by omega) (by omega)]; omega

/-- From some fuel on the function answers v. -/
def Ev {α : Type} (f : Nat → Option α) (v : α) : Prop := ∃ K, ∀ k, K ≤ k → f k = some v
section
variable {α β : Type}
theorem Ev.now (v : α) : Ev (fun _ => some v) v := ⟨0, fun _ _ => rfl⟩
theorem Ev.of {f : Nat → Option α} {v : α} (h : ∀ k, f k = some v) : Ev f v := ⟨0, fun k _ => h k⟩
theorem Ev.from {f : Nat → Option α} {v : α} (n : Nat) (h : ∀ k, f (k + n) = some v) : Ev f v := ⟨n, fun k hk => by
  obtain ⟨m, rfl⟩ : ∃ m, k = m + n := ⟨k - n, by omega⟩
  exact h m⟩
theorem Ev.bind {f : Nat → Option α} {a : α} {g : Nat → α → Option β} {v : β} (h : Ev f a) (h2 : Ev (fun k => g k a) v) : Ev (fun k => (f k).bind (g k)) v := by
  obtain ⟨K, h⟩ := h
  obtain ⟨K2, h2⟩ := h2
  exact ⟨max K K2, fun k hk => by show (f k).bind (g k) = some v; rw [h k (by omega)]; exact h2 k (by omega)⟩
theorem Ev.step {g f : Nat → Option α} {v : α} (h : ∀ k, g (k + 1) = f k) (h2 : Ev f v) : Ev g v := by
  obtain ⟨K, h2⟩ := h2
  exact ⟨K + 1, fun k hk => by
    obtain ⟨m, rfl⟩ : ∃ m, k = m + 1 := ⟨k - 1, by omega⟩
    rw [h m]; exact h2 m (by omega)⟩
theorem Ev.succ {g : Nat → Option α} {v : α} (h : Ev (fun k => g (k + 1)) v) : Ev g v := Ev.step (fun _ => rfl) h
theorem Ev.ex {f : Nat → Option α} {v : α} (h : Ev f v) : ∃ k, f k = some v := let ⟨K, h⟩ := h; ⟨K, h K (Nat.le_refl _)⟩
theorem Ev.pos {p : Prop} [Decidable p] {f g : Nat → Option α} {v : α} (c : p) (h1 : Ev f v) : Ev (fun k => if p then f k else g k) v := by simp only [if_pos c]; exact h1
theorem Ev.neg {p : Prop} [Decidable p] {f g : Nat → Option α} {v : α} (c : ¬ p) (h1 : Ev g v) : Ev (fun k => if p then f k else g k) v := by simp only [if_neg c]; exact h1

/-- A loop over a list by its index: what holds of its state carries over each round, or the round is the last one. -/
theorem loop {σ ρ : Type} (l : List α) (F : Nat → Int → σ → Option ρ) (I : Nat → σ → Prop) (post : ρ → Prop)
    (hstep : ∀ (i : Nat) (s : σ), i < l.length → I i s → (∃ s', I (i + 1) s' ∧ ∀ v, Ev (fun k => F k ((i + 1 : Nat) : Int) s') v → Ev (fun k => F k (i : Int) s) v) ∨ ∃ v, post v ∧ Ev (fun k => F k (i : Int) s) v)
    (hend : ∀ s, I l.length s → ∃ v, post v ∧ Ev (fun k => F k (l.length : Int) s) v) :
    ∀ (i : Nat) (s : σ), i ≤ l.length → I i s → ∃ v, post v ∧ Ev (fun k => F k (i : Int) s) v := by
  intro i
  generalize hd : l.length - i = d
  induction d generalizing i with
  | zero =>
    intro s hi hI
    obtain rfl : i = l.length := by omega
    exact hend s hI
  | succ d ih =>
    intro s hi hI
    rcases hstep i s (by omega) hI with ⟨s', h1, h2⟩ | h
    · obtain ⟨v, h3, h4⟩ := ih (i + 1) (by omega) s' (by omega) h1
      exact ⟨v, h3, h2 v h4⟩
    · exact h
end
end Go.EV.Pure
namespace Go.EV.Pure
open Go Go.EV Go.RowKit
set_option linter.unusedSimpArgs false
/-! Strings as lists of bytes. -/
def mk (p : List UInt8) : ByteArray := ⟨p.toArray⟩
theorem mk_data (p : List UInt8) : (mk p).data.toList = p := by simp [mk]
theorem mk_size (p : List UInt8) : (mk p).size = p.length := by simp [mk, ByteArray.size]
theorem mk_of (s : ByteArray) : s = mk s.data.toList := by
  apply ByteArray.ext
  simp [mk]
theorem mk_extract (p : List UInt8) (i j : Nat) : (mk p).extract i j = mk ((p.take j).drop i) := by
  apply ByteArray.ext
  simp only [mk, ByteArray.data_extract]
  apply Array.ext'
  simp [List.extract_eq_take_drop, List.drop_take]
theorem mk_bt (p : List UInt8) (i : Nat) (h : i < p.length) : bt (mk p) (i : Int) = (p[i].toNat : Int) := by
  unfold bt
  have hs : (Int.toNat (i : Int)) < (mk p).size := by simpa [mk_size] using h
  rw [dif_pos hs]
  have : (mk p)[Int.toNat (i : Int)]'hs = p[i] := by
    show (p.toArray)[Int.toNat (i : Int)]'_ = _
    simp only [Int.toNat_natCast, List.getElem_toArray]
    rfl
  rw [this]
  rfl
theorem mk_ascii (p : List UInt8) : asciiT (mk p) = p.all fun b => decide (b.toNat < 128) := by unfold asciiT; rw [mk_data]
theorem all_bytes {P : UInt8 → Prop} (h : ∀ n : Fin 256, P (UInt8.ofNat n.val)) (b : UInt8) : P b := by
  have := h ⟨b.toNat, UInt8.toNat_lt b⟩
  simpa using this
theorem ascii_sub {p q : List UInt8} (h : asciiT (mk p) = true) (hq : ∀ b ∈ q, b ∈ p) : asciiT (mk q) = true := by
  rw [mk_ascii, List.all_eq_true] at h ⊢
  exact fun b hb => h b (hq b hb)
end Go.EV.Pure
namespace Go.EV.Pure
open Go Go.EV Go.RowKit
theorem Below_j (x : Int) : Ev (fun k => pilemake_Below.j6 k x) x := Ev.from 1 fun k => rfl
theorem Below_spec (x n : Int) (hn : n ≤ 9223372036854775807) : ∃ r, Ev (fun k => pilemake_Below.f k x n) r ∧ 0 ≤ r ∧ (1 ≤ n → r < n) ∧ (n < 1 → r = 0) := by
  unfold pilemake_Below.f
  by_cases h : n < 1
  · simp only [if_pos h]
    exact ⟨0, Ev.now _, by omega, by omega, fun _ => rfl⟩
  · simp only [if_neg h, if_neg (show ¬ n = 0 by omega)]
    have hm := Int.natAbs_tmod x n
    have hm2 := Nat.mod_lt x.natAbs (show n.natAbs > 0 by omega)
    have h1 : x.tmod n < n := by omega
    have h2 : -n < x.tmod n := by omega
    by_cases h3 : x.tmod n < 0
    · simp only [if_pos h3]
      refine ⟨_, Below_j _, ?_, ?_, ?_⟩ <;> rw [wrap_id (by omega) (by omega)] <;> omega
    · simp only [if_neg h3]
      exact ⟨_, Below_j _, by omega, by omega, by omega⟩
theorem Next_spec (l : List Int) (s n : Int) (h0 : 0 ≤ s) (h1 : s ≤ 4611686018427387904) (hn : n ≤ 9223372036854775807) (hl : l.length ≤ 140737488351232) :
    ∃ r, Ev (fun k => pilemake_Stream_Next.f k l s n) (r, l, s + 1) ∧ 0 ≤ r ∧ (1 ≤ n → r < n) := by
  unfold pilemake_Stream_Next.f
  have hs : wrap64 (s + 1) = s + 1 := wrap_id (by omega) (by omega)
  have hs2 : wrap64 (s + 1 - 1) = s := by rw [wrap_id (by omega) (by omega)]; omega
  simp only [hs, hs2]
  by_cases h : (l.length : Int) = 0
  · simp only [if_pos h]
    obtain ⟨r, hr, r0, r1, _⟩ := Below_spec (wrap64 ((s + 1) * 7919)) n hn
    exact ⟨r, Ev.bind hr (Ev.now _), r0, r1⟩
  · have e : Int.tmod s (l.length : Int) = s % (l.length : Int) := Int.tmod_eq_emod_of_nonneg h0
    have m0 : 0 ≤ s % (l.length : Int) := Int.emod_nonneg _ h
    have m1 : s % (l.length : Int) < (l.length : Int) := Int.emod_lt_of_pos _ (by omega)
    simp only [if_neg h, e, if_pos m0, if_pos m1]
    obtain ⟨a, ha, _⟩ := Below_spec (rd l (s % (l.length : Int))) 1073741824 (by omega)
    obtain ⟨r, hr, r0, r1, _⟩ := Below_spec (wrap64 (a + wrap64 (wrap64 (Int.tdiv s (l.length : Int)) * wrap64 (7919 + s % (l.length : Int))))) n hn
    exact ⟨r, Ev.bind ha (Ev.bind hr (Ev.now _)), r0, r1⟩
theorem Pick_spec (l : List Int) (s : Int) (m : List Int) (h0 : 0 ≤ s) (h1 : s ≤ 4611686018427387904) (hl : l.length ≤ 140737488351232) (hm : 1 ≤ m.length) (hm2 : m.length ≤ 1000) :
    ∃ r, Ev (fun k => pilemake_Stream_Pick.f k l s m) (r, l, s + 1) ∧ r ∈ m := by
  obtain ⟨r, hr, r0, r1⟩ := Next_spec l s (m.length : Int) h0 h1 (by omega) hl
  have r2 := r1 (by omega)
  exact ⟨rd m r, Ev.bind hr (Ev.pos r0 (Ev.pos r2 (Ev.now _))), rd_mem m r r0 r2⟩
theorem Range_spec (l : List Int) (s a b : Int) (h0 : 0 ≤ s) (h1 : s ≤ 4611686018427387904) (ha : -1099511627776 ≤ a) (hb : b ≤ 1099511627776) (hab : a ≤ b) (hl : l.length ≤ 140737488351232) :
    ∃ r, Ev (fun k => pilemake_Stream_Range.f k l s a b) (r, l, s + 1) ∧ a ≤ r ∧ r ≤ b := by
  obtain ⟨r, hr, r0, r1⟩ := Next_spec l s (b - a + 1) h0 h1 (by omega) hl
  have r2 := r1 (by omega)
  refine ⟨a + r, ?_, by omega, by omega⟩
  unfold pilemake_Stream_Range.f
  rw [wrap_id (e := b - a) (by omega) (by omega), wrap_id (e := b - a + 1) (by omega) (by omega)]
  refine Ev.neg (by omega) (Ev.bind hr ?_)
  simp only [wrap_id (e := a + r) (by omega) (by omega)]
  exact Ev.now _
theorem Flip_spec (l : List Int) (s n : Int) (h0 : 0 ≤ s) (h1 : s ≤ 4611686018427387904) (hn : n ≤ 9223372036854775807) (hl : l.length ≤ 140737488351232) :
    ∃ b, Ev (fun k => pilemake_Stream_Flip.f k l s n) (b, l, s + 1) := by
  obtain ⟨r, hr, _⟩ := Next_spec l s n h0 h1 hn hl
  exact ⟨decide (r = 0), Ev.bind hr (Ev.now _)⟩
end Go.EV.Pure
namespace Go.EV.Pure
open Go Go.EV Go.RowKit
set_option linter.unusedSimpArgs false
set_option maxRecDepth 100000
/-! Strings that the stream draws: of ASCII, and short. -/
def GS (n : Nat) (s : ByteArray) : Prop := asciiT s = true ∧ s.size ≤ n
theorem ascii_app {a b : ByteArray} (ha : asciiT a = true) (hb : asciiT b = true) : asciiT (a ++ b) = true := by
  unfold asciiT at ha hb ⊢
  simp only [ByteArray.data_append, Array.toList_append, List.all_append, ha, hb, Bool.and_self]
theorem ascii_ext {a : ByteArray} (ha : asciiT a = true) (i j : Nat) : asciiT (a.extract i j) = true := by
  rw [mk_of a] at ha ⊢
  rw [mk_extract]
  exact ascii_sub ha fun b hb => List.mem_of_mem_take (List.mem_of_mem_drop hb)
theorem enc_ascii : ∀ b : UInt8, b.toNat < 128 → Utf8.encode (IntKind.i32.wrap (b.toNat : Int)) = mk [b] := all_bytes (by decide +kernel)
theorem GS.app {n m : Nat} {a b : ByteArray} (ha : GS n a) (hb : GS m b) : GS (n + m) (a ++ b) := ⟨ascii_app ha.1 hb.1, by rw [ByteArray.size_append]; have := ha.2; have := hb.2; omega⟩
theorem GS.mono {n m : Nat} {a : ByteArray} (ha : GS n a) (h : n ≤ m) : GS m a := ⟨ha.1, Nat.le_trans ha.2 h⟩
theorem ext_le (x : ByteArray) (a b : Nat) : (x.extract a b).size ≤ x.size := by rw [ByteArray.size_extract]; omega
theorem Changed_fin (l : List Int) (s o : Int) (i X : Nat) (hi : i < X) (hX : X ≤ 1000000000) (A M Y Z : ByteArray) (hA : A.size ≤ 1000000000) (hM : M.size ≤ 1) (hY : Y.size ≤ 1000000000) (hZ : Z.size ≤ 1000000000) :
    ∃ r, (r = A ++ M ++ Y ∨ r = A ++ M ++ Z ∨ r = A ++ Y) ∧ Ev (fun k => (if o = 0 then (if 0 ≤ (i : Int) then (if (i : Int) ≤ (X : Int) then (if A.size + M.size ≤ 9223372036854775807 then (if 0 ≤ ((i + 1 : Nat) : Int) then (if ((i + 1 : Nat) : Int) ≤ (X : Int) then (if (A ++ M).size + Y.size ≤ 9223372036854775807 then Option.some ((A ++ M) ++ Y, l, s) else Option.none) else Option.none) else Option.none) else Option.none) else Option.none) else Option.none) else (if o = 1 then (if 0 ≤ (i : Int) then (if (i : Int) ≤ (X : Int) then (if A.size + M.size ≤ 9223372036854775807 then (if 0 ≤ (i : Int) then (if (i : Int) ≤ (X : Int) then (if (A ++ M).size + Z.size ≤ 9223372036854775807 then Option.some ((A ++ M) ++ Z, l, s) else Option.none) else Option.none) else Option.none) else Option.none) else Option.none) else Option.none) else (if 0 ≤ (i : Int) then (if (i : Int) ≤ (X : Int) then (if 0 ≤ ((i + 1 : Nat) : Int) then (if ((i + 1 : Nat) : Int) ≤ (X : Int) then (if A.size + Y.size ≤ 9223372036854775807 then Option.some (A ++ Y, l, s) else Option.none) else Option.none) else Option.none) else Option.none) else Option.none)))) (r, l, s) := by
  have e : (A ++ M).size = A.size + M.size := ByteArray.size_append
  rw [e]
  generalize A.size = a at hA
  generalize M.size = m at hM
  generalize Y.size = y at hY
  generalize Z.size = z at hZ
  clear e
  by_cases c1 : o = 0
  · exact ⟨_, .inl rfl, Ev.pos c1 (Ev.pos (by omega) (Ev.pos (by omega) (Ev.pos (by omega) (Ev.pos (by omega) (Ev.pos (by omega) (Ev.pos (by omega) (Ev.now _)))))))⟩
  · by_cases c2 : o = 1
    · exact ⟨_, .inr (.inl rfl), Ev.neg c1 (Ev.pos c2 (Ev.pos (by omega) (Ev.pos (by omega) (Ev.pos (by omega) (Ev.pos (by omega) (Ev.pos (by omega) (Ev.pos (by omega) (Ev.now _))))))))⟩
    · exact ⟨_, .inr (.inr rfl), Ev.neg c1 (Ev.neg c2 (Ev.pos (by omega) (Ev.pos (by omega) (Ev.pos (by omega) (Ev.pos (by omega) (Ev.pos (by omega) (Ev.now _)))))))⟩
theorem size_pos (y : ByteArray) (hy : ¬ y = (⟨#[]⟩ : ByteArray)) : 1 ≤ y.size := by
  rcases Nat.eq_zero_or_pos y.size with h | h
  · refine absurd ?_ hy
    apply ByteArray.ext
    apply Array.eq_empty_of_size_eq_zero
    exact h
  · exact h
theorem bt_enc (w : ByteArray) (hw : asciiT w = true) (d : Nat) (hd : d < w.size) : ∃ b : UInt8, Utf8.encode (IntKind.i32.wrap (bt w (d : Int))) = mk [b] ∧ asciiT (mk [b]) = true := by
  have hd : d < w.data.toList.length := by rw [Array.length_toList]; exact hd
  have hb : bt w (d : Int) = ((w.data.toList[d]).toNat : Int) := by
    conv => lhs; rw [mk_of w]
    rw [mk_bt _ d hd]
  have ha : (w.data.toList[d]).toNat < 128 := by
    unfold asciiT at hw
    rw [List.all_eq_true] at hw
    simpa using hw _ (List.getElem_mem hd)
  exact ⟨w.data.toList[d], by rw [hb]; exact enc_ascii _ ha, by rw [mk_ascii]; simpa using ha⟩
theorem Changed_GS (n : Nat) (l : List Int) (s : Int) (x w : ByteArray) (h0 : 0 ≤ s) (h1 : s ≤ 4611686018427387000) (hl : l.length ≤ 140737488351232) (hx : GS n x) (hn : n ≤ 100000000) (hw : GS 1000 w) (hw0 : ¬ w = (⟨#[]⟩ : ByteArray)) :
    ∃ r s', Ev (fun k => pilemake_Stream_Changed.f k l s x w) (r, l, s') ∧ (GS (n + 1 + n) r ∨ r = w) ∧ s ≤ s' ∧ s' ≤ s + 3 := by
  unfold pilemake_Stream_Changed.f
  by_cases c : x = (⟨#[]⟩ : ByteArray)
  · exact ⟨w, s, Ev.pos c (Ev.now _), .inr rfl, by omega, by omega⟩
  have sx := size_pos x c
  have sw := size_pos w hw0
  have hx2 := hx.2
  have hw2 := hw.2
  obtain ⟨i, ei, i0, i1⟩ := Next_spec l s (x.size : Int) h0 (by omega) (by omega) hl
  obtain ⟨d, ed, d0, d1⟩ := Next_spec l (s + 1) (w.size : Int) (by omega) (by omega) (by omega) hl
  obtain ⟨o, eo, o0, o1⟩ := Next_spec l (s + 1 + 1) 3 (by omega) (by omega) (by omega) hl
  have i2 := i1 (by omega)
  have d2 := d1 (by omega)
  clear i1 d1 o1
  obtain ⟨i, rfl⟩ : ∃ n : Nat, i = n := ⟨i.toNat, by omega⟩
  obtain ⟨d, rfl⟩ : ∃ n : Nat, d = n := ⟨d.toNat, by omega⟩
  obtain ⟨b, hb, ha⟩ := bt_enc w hw.1 d (by omega)
  have g1 : GS 1 (mk [b]) := ⟨ha, by rw [mk_size]; exact Nat.le_refl _⟩
  have w1 : wrap64 ((i : Int) + 1) = ((i + 1 : Nat) : Int) := wrap_succ (by omega)
  have gx : ∀ a b, GS n (x.extract a b) := fun a b => ⟨ascii_ext hx.1 a b, Nat.le_trans (ext_le x a b) hx.2⟩
  have zx : ∀ a b, (x.extract a b).size ≤ 1000000000 := fun a b => Nat.le_trans (ext_le x a b) (by omega)
  obtain ⟨r, h2, h3⟩ := Changed_fin l (s + 1 + 1 + 1) o i x.size (by omega) (by omega) (x.extract 0 i) (mk [b]) (x.extract (i + 1) x.size) (x.extract i x.size) (zx _ _) g1.2 (zx _ _) (zx _ _)
  refine ⟨r, s + 1 + 1 + 1, Ev.neg c (Ev.neg hw0 (Ev.bind ei (Ev.bind ed ?_))), .inl ?_, by omega, by omega⟩
  · refine Ev.pos d0 (Ev.pos d2 (Ev.bind eo ?_))
    simp only [hb, w1, Int.toNat_natCast]
    exact h3
  · rcases h2 with rfl | rfl | rfl
    · exact ((gx _ _).app g1).app (gx _ _)
    · exact ((gx _ _).app g1).app (gx _ _)
    · exact ((gx _ _).app (gx _ _)).mono (by omega)
end Go.EV.Pure
namespace Go.EV.Pure
open Go Go.EV Go.RowKit
set_option linter.unusedSimpArgs false
/-! Sites, the cosine, how far sites are from each other. -/
theorem tmod_neg {a n : Int} (h : a ≤ 0) : a.tmod n = -((-a) % n) := by
  have h1 := Int.neg_tmod (-a) n
  rw [Int.neg_neg] at h1
  rw [h1, Int.tmod_eq_emod_of_nonneg (by omega)]
theorem tdiv_neg {a n : Int} (h : a ≤ 0) : a.tdiv n = -((-a) / n) := by
  have h1 := Int.neg_tdiv (-a) n
  rw [Int.neg_neg] at h1
  rw [h1, Int.tdiv_eq_ediv_of_nonneg (by omega)]
theorem Outside_eq (a lo hi : Int) : kit_Outside.f a lo hi = some (decide (a < lo ∨ hi < a)) := by
  unfold kit_Outside.f
  split <;> simp [*]
theorem in_eq (a lo hi : Int) : pileref1_in.f a lo hi = some (decide (lo ≤ a ∧ a ≤ hi)) := by
  unfold pileref1_in.f
  split <;> simp [*]
theorem CheckSite_eq (n e : Int) : place_CheckSite.f n e = some (if (-324000 ≤ n ∧ n ≤ 324000) ∧ -648000 ≤ e ∧ e ≤ 647999 then 0 else 1) := by
  unfold place_CheckSite.f
  rw [Outside_eq, Outside_eq]
  simp only [Option.bind_some, decide_eq_true_eq]
  by_cases h : -324000 ≤ n ∧ n ≤ 324000
  · rw [if_neg (by omega)]
    by_cases h2 : -648000 ≤ e ∧ e ≤ 647999
    · rw [if_neg (by omega), if_pos ⟨h, h2⟩]
    · rw [if_pos (by omega), if_neg (by omega)]
  · rw [if_pos (by omega), if_neg (by omega)]
theorem SiteFault_eq (n e : Int) : pileref1_SiteFault.f n e = some (if (-324000 ≤ n ∧ n ≤ 324000) ∧ -648000 ≤ e ∧ e ≤ 647999 then 0 else 1) := by
  unfold pileref1_SiteFault.f
  rw [in_eq, in_eq]
  simp only [Option.bind_some, decide_eq_true_eq]
  by_cases h : -324000 ≤ n ∧ n ≤ 324000
  · rw [if_pos h]
    by_cases h2 : -648000 ≤ e ∧ e ≤ 647999
    · rw [if_pos h2, if_pos ⟨h, h2⟩]
    · rw [if_neg h2, if_neg (by omega)]
  · rw [if_neg h, if_neg (by omega)]
/-- The cosine of an angle from 0 to a quarter. -/
def cosQ (x : Int) : Int := Int.tdiv ((419904000000 - 4 * x * x) * 1000000) (419904000000 + x * x)
/-- The cosine of any angle. -/
def cosV (a : Int) : Int :=
  if a % 1296000 > 648000 then (if 1296000 - a % 1296000 > 324000 then -(cosQ (648000 - (1296000 - a % 1296000))) else cosQ (1296000 - a % 1296000))
  else (if a % 1296000 > 324000 then -(cosQ (648000 - a % 1296000)) else cosQ (a % 1296000))
theorem sq_bd (x : Int) (h0 : 0 ≤ x) (h1 : x ≤ 324000) : 0 ≤ x * x ∧ x * x ≤ 104976000000 := by
  refine ⟨Int.mul_nonneg h0 h0, ?_⟩
  exact Int.le_trans (Int.mul_le_mul_of_nonneg_left h1 h0) (Int.mul_le_mul_of_nonneg_right h1 (by omega))
theorem cosQ_bd (x : Int) (h0 : 0 ≤ x) (h1 : x ≤ 324000) : 0 ≤ cosQ x ∧ cosQ x ≤ 1000000 := by
  obtain ⟨a, b⟩ := sq_bd x h0 h1
  have e : 4 * x * x = 4 * (x * x) := by rw [Int.mul_assoc]
  unfold cosQ
  rw [e]
  generalize x * x = q at *
  rw [tdiv_pos (by omega)]
  refine ⟨Int.ediv_nonneg (by omega) (by omega), ?_⟩
  have := Int.ediv_mul_le ((419904000000 - 4 * q) * 1000000) (b := 419904000000 + q) (by omega)
  exact Int.ediv_le_of_le_mul (by omega) (by omega)
theorem cosV_bd (a : Int) : -1000000 ≤ cosV a ∧ cosV a ≤ 1000000 := by
  have m0 : 0 ≤ a % 1296000 := Int.emod_nonneg _ (by omega)
  have m1 : a % 1296000 < 1296000 := Int.emod_lt_of_pos _ (by omega)
  unfold cosV
  generalize a % 1296000 = x at *
  split
  · split
    · have := cosQ_bd (648000 - (1296000 - x)) (by omega) (by omega); omega
    · have := cosQ_bd (1296000 - x) (by omega) (by omega); omega
  · split
    · have := cosQ_bd (648000 - x) (by omega) (by omega); omega
    · have := cosQ_bd x (by omega) (by omega); omega
theorem core_eq (x : Int) (h0 : 0 ≤ x) (h1 : x ≤ 324000) :
    (if (wrap64 (419904000000 + (wrap64 (x * x)))) = 0 then (none : Option Int) else (some (wrap64 (Int.tdiv (wrap64 ((wrap64 (419904000000 - (wrap64 ((wrap64 (4 * x)) * x)))) * 1000000)) (wrap64 (419904000000 + (wrap64 (x * x)))))))) = some (cosQ x) := by
  obtain ⟨a, b⟩ := sq_bd x h0 h1
  have e : 4 * x * x = 4 * (x * x) := by rw [Int.mul_assoc]
  have hb := cosQ_bd x h0 h1
  rw [wrap_id (e := 4 * x) (by omega) (by omega), wrap_id (e := x * x) (by omega) (by omega), wrap_id (e := 419904000000 + x * x) (by omega) (by omega), wrap_id (e := 4 * x * x) (by omega) (by omega), wrap_id (e := 419904000000 - 4 * x * x) (by omega) (by omega), wrap_id (e := (419904000000 - 4 * x * x) * 1000000) (by omega) (by omega), if_neg (by omega)]
  have : (Int.tdiv ((419904000000 - 4 * x * x) * 1000000) (419904000000 + x * x)) = cosQ x := rfl
  rw [this, wrap_id (by omega) (by omega)]
theorem cosine_mod (a : Int) : Int.tmod (wrap64 (Int.tmod a 1296000 + 1296000)) 1296000 = a % 1296000 := by
  by_cases h : 0 ≤ a
  · rw [tmod_pos h, wrap_id (by omega) (by omega), tmod_pos (by omega)]; omega
  · rw [tmod_neg (a := a) (by omega), wrap_id (by omega) (by omega), tmod_pos (by omega)]; omega
theorem cosine_j (x : Int) (h0 : 0 ≤ x) (h1 : x ≤ 324000) (k : Nat) : place_cosine.j4 (k + 1) x = some (cosQ x) := by
  rw [place_cosine.j4, if_neg (by omega)]
  exact core_eq x h0 h1
theorem cosine_low (x : Int) (h0 : 0 ≤ x) (h1 : x ≤ 324000) (k : Nat) : place_cosine.f (k + 2) x = some (cosQ x) := by
  rw [place_cosine.f, cosine_mod, show x % 1296000 = x by omega, if_neg (by omega)]
  exact cosine_j x h0 h1 k
theorem cosine_jj (x : Int) (h0 : 0 ≤ x) (h1 : x ≤ 648000) (k : Nat) : place_cosine.j4 (k + 3) x = some (if x > 324000 then -(cosQ (648000 - x)) else cosQ x) := by
  by_cases d : x > 324000
  · have hb := cosQ_bd (648000 - x) (by omega) (by omega)
    rw [place_cosine.j4, if_pos d, if_pos d, wrap_id (by omega) (by omega), cosine_low _ (by omega) (by omega)]
    simp only [Option.bind_some]
    rw [wrap_id (by omega) (by omega), Int.zero_sub]
  · rw [if_neg d]
    exact cosine_j x h0 (by omega) _
theorem cosine_at (a : Int) (k : Nat) : place_cosine.f (k + 4) a = some (cosV a) := by
  have m0 : 0 ≤ a % 1296000 := Int.emod_nonneg _ (by omega)
  have m1 : a % 1296000 < 1296000 := Int.emod_lt_of_pos _ (by omega)
  rw [place_cosine.f, cosine_mod]
  unfold cosV
  generalize a % 1296000 = x at *
  by_cases c : x > 648000
  · rw [if_pos c, if_pos c, wrap_id (e := 1296000 - x) (by omega) (by omega)]
    exact cosine_jj _ (by omega) (by omega) k
  · rw [if_neg c, if_neg c]
    exact cosine_jj _ (by omega) (by omega) k
theorem cosine_ev (a : Int) : Ev (fun k => place_cosine.f k a) (cosV a) := Ev.from 4 fun k => cosine_at a k
theorem tdiv_bd (a n : Int) (h : 1 ≤ n) (c : Int) (h0 : -c ≤ a) (h1 : a ≤ c) : -c ≤ Int.tdiv a n ∧ Int.tdiv a n ≤ c := by
  by_cases s : 0 ≤ a
  · rw [tdiv_pos s]
    have := Int.ediv_le_self n s
    have := Int.ediv_nonneg s (show 0 ≤ n by omega)
    omega
  · rw [tdiv_neg (a := a) (by omega)]
    have := Int.ediv_le_self n (show 0 ≤ -a by omega)
    have := Int.ediv_nonneg (show 0 ≤ -a by omega) (show 0 ≤ n by omega)
    omega
/-- An angle to the east, taken around the world. -/
def aroundV (a : Int) : Int := (a + 648000) % 1296000 - 648000
theorem aroundV_bd (a : Int) : -648000 ≤ aroundV a ∧ aroundV a ≤ 647999 := by unfold aroundV; omega
theorem around_eq (a : Int) (h0 : -1099511627776 ≤ a) (h1 : a ≤ 1099511627776) : place_around.f a = some (aroundV a) := by
  unfold place_around.f aroundV
  rw [wrap_id (e := a + 648000) (by omega) (by omega)]
  have h : Int.tmod (wrap64 (Int.tmod (a + 648000) 1296000 + 1296000)) 1296000 = (a + 648000) % 1296000 := cosine_mod _
  rw [h, wrap_id (by omega) (by omega)]
/-- A site that may be. -/
def Right (n e : Int) : Prop := (-324000 ≤ n ∧ n ≤ 324000) ∧ -648000 ≤ e ∧ e ≤ 647999
/-- So many seconds to the north, in metres. -/
def northV (dn : Int) : Int := Int.tdiv (dn * 10000000) 324000
/-- So many seconds to the east at some angle to the north, in metres. -/
def eastV (de m : Int) : Int := Int.tdiv (Int.tdiv (de * cosV m) 1000000 * 10000000) 324000
theorem northV_bd (dn : Int) (h : -648000 ≤ dn ∧ dn ≤ 648000) : -20000000 ≤ northV dn ∧ northV dn ≤ 20000000 := by
  unfold northV
  by_cases s : 0 ≤ dn * 10000000
  · rw [tdiv_pos s]; omega
  · rw [tdiv_neg (a := dn * 10000000) (by omega)]; omega
theorem mul_bd (a b A B : Int) (hA : 0 ≤ A) (_hB : 0 ≤ B) (ha : -A ≤ a ∧ a ≤ A) (hb : -B ≤ b ∧ b ≤ B) : -(A * B) ≤ a * b ∧ a * b ≤ A * B := by
  have h1 : (a.natAbs : Int) ≤ A := by omega
  have h2 : (b.natAbs : Int) ≤ B := by omega
  have h3 : (a.natAbs : Int) * (b.natAbs : Int) ≤ A * B := Int.mul_le_mul h1 h2 (by omega) hA
  have h4 : ((a * b).natAbs : Int) = (a.natAbs : Int) * (b.natAbs : Int) := by rw [Int.natAbs_mul]; push_cast; rfl
  omega
theorem east_mid (de m : Int) (h : -648000 ≤ de ∧ de ≤ 648000) : (-648000000000 ≤ de * cosV m ∧ de * cosV m ≤ 648000000000) ∧ -648000 ≤ Int.tdiv (de * cosV m) 1000000 ∧ Int.tdiv (de * cosV m) 1000000 ≤ 648000 := by
  have hc := cosV_bd m
  have hb := mul_bd de (cosV m) 648000 1000000 (by omega) (by omega) h hc
  refine ⟨by omega, ?_⟩
  by_cases s : 0 ≤ de * cosV m
  · rw [tdiv_pos s]; omega
  · rw [tdiv_neg (a := de * cosV m) (by omega)]; omega
/-- How far b is from a: to the north and to the east. -/
def metresV (an ae bn be : Int) : Int × Int := (northV (bn - an), eastV (aroundV (be - ae)) (Int.tdiv (an + bn) 2))
theorem north_raw (dn : Int) (h : -648000 ≤ dn ∧ dn ≤ 648000) : wrap64 (Int.tdiv (wrap64 (dn * 10000000)) 324000) = northV dn := by
  have := northV_bd dn h
  unfold northV at *
  rw [wrap_id (e := dn * 10000000) (by omega) (by omega), wrap_id (by omega) (by omega)]
theorem east_raw (de m : Int) (h : -648000 ≤ de ∧ de ≤ 648000) : wrap64 (Int.tdiv (wrap64 ((wrap64 (Int.tdiv (wrap64 (de * cosV m)) 1000000)) * 10000000)) 324000) = eastV de m := by
  obtain ⟨h1, h2⟩ := east_mid de m h
  rw [wrap_id (e := de * cosV m) (by omega) (by omega), wrap_id (e := Int.tdiv (de * cosV m) 1000000) (by omega) (by omega), north_raw _ h2]
  rfl
theorem between_eq (an ae bn be : Int) (ha : Right an ae) (hb : Right bn be) : place_between.f an ae bn be = some (bn - an, aroundV (be - ae)) := by
  unfold Right at ha hb
  unfold place_between.f
  rw [wrap_id (e := be - ae) (by omega) (by omega), around_eq _ (by omega) (by omega), Option.bind_some, wrap_id (by omega) (by omega)]
theorem metres_ev (an ae bn be : Int) (ha : Right an ae) (hb : Right bn be) : Ev (fun k => place_inMetres.f k an ae bn be) (metresV an ae bn be) := by
  have hr := aroundV_bd (be - ae)
  unfold place_inMetres.f
  simp only [between_eq an ae bn be ha hb, Option.bind_some]
  refine Ev.bind (cosine_ev _) ?_
  unfold Right at ha hb
  have ht := tdiv_bd (an + bn) 2 (by omega) 648000 (by omega) (by omega)
  rw [wrap_id (e := an + bn) (by omega) (by omega), wrap_id (e := Int.tdiv (an + bn) 2) (by omega) (by omega), north_raw _ (by omega), east_raw _ _ (by omega)]
  exact Ev.now _
end Go.EV.Pure
namespace Go.EV.Pure
open Go Go.EV Go.RowKit
/-! Sites that the stream makes. -/
theorem SiteOf_j (n e : Int) (l : List Int) (s : Int) : Ev (fun k => pilemake_Stream_SiteOf.j4 k n e l s) (n, e, l, s) := Ev.from 1 fun k => rfl
theorem Odd_spec (l : List Int) (s a b : Int) (h0 : 0 ≤ s) (h1 : s ≤ 4611686018427387000) (ha : -1099511627776 ≤ a) (hb : b ≤ 1099511627776) (hab : a ≤ b) (hl : l.length ≤ 140737488351232) :
    ∃ r s', Ev (fun k => pilemake_Stream_Odd.f k l s a b) (r, l, s') ∧ s ≤ s' ∧ s' ≤ s + 2 := by
  obtain ⟨f, e1⟩ := Flip_spec l s 12 h0 (by omega) (by omega) hl
  cases f with
  | true =>
    obtain ⟨r, e2, _⟩ := Pick_spec l (s + 1) [wrap64 (a - 1), wrap64 (b + 1), a, b, (-1099511627776), 1099511627776] (by omega) (by omega) hl (by simp) (by simp)
    exact ⟨r, s + 1 + 1, Ev.bind e1 (Ev.pos rfl (Ev.bind e2 (Ev.now _))), by omega, by omega⟩
  | false =>
    obtain ⟨r, e2, _⟩ := Range_spec l (s + 1) a b (by omega) (by omega) ha hb hab hl
    exact ⟨r, s + 1 + 1, Ev.bind e1 (Ev.neg Bool.false_ne_true (Ev.bind e2 (Ev.now _))), by omega, by omega⟩
theorem SiteOf_spec (l : List Int) (s : Int) (h0 : 0 ≤ s) (h1 : s ≤ 4611686018427380000) (hl : l.length ≤ 140737488351232) :
    ∃ n e s', Ev (fun k => pilemake_Stream_SiteOf.f k l s) (n, e, l, s') ∧ s ≤ s' ∧ s' ≤ s + 20 := by
  obtain ⟨r1, e1, _⟩ := Range_spec l s (-324000) 324000 (by omega) (by omega) (by omega) (by omega) (by omega) hl
  obtain ⟨r2, e2, _⟩ := Pick_spec l (s + 1) [0, 172800, 174599, (-324000), 324000, r1] (by omega) (by omega) hl (by simp) (by simp)
  obtain ⟨r3, e3, _⟩ := Range_spec l (s + 1 + 1) (-648000) 647999 (by omega) (by omega) (by omega) (by omega) (by omega) hl
  obtain ⟨r4, e4, _⟩ := Pick_spec l (s + 1 + 1 + 1) [0, 36000, (-648000), 647999, r3] (by omega) (by omega) hl (by simp) (by simp)
  obtain ⟨f, e5⟩ := Flip_spec l (s + 1 + 1 + 1 + 1) 20 (by omega) (by omega) (by omega) hl
  cases f with
  | true =>
    obtain ⟨r6, s6, e6, b6, c6⟩ := Odd_spec l (s + 1 + 1 + 1 + 1 + 1) (-324000) 324000 (by omega) (by omega) (by omega) (by omega) (by omega) hl
    obtain ⟨r7, s7, e7, b7, c7⟩ := Odd_spec l s6 (-648000) 647999 (by omega) (by omega) (by omega) (by omega) (by omega) hl
    exact ⟨r6, r7, s7, Ev.bind e1 (Ev.bind e2 (Ev.bind e3 (Ev.bind e4 (Ev.bind e5 (Ev.pos rfl (Ev.bind e6 (Ev.bind e7 (SiteOf_j _ _ _ _)))))))), by omega, by omega⟩
  | false =>
    exact ⟨r2, r4, s + 1 + 1 + 1 + 1 + 1, Ev.bind e1 (Ev.bind e2 (Ev.bind e3 (Ev.bind e4 (Ev.bind e5 (Ev.neg Bool.false_ne_true (SiteOf_j _ _ _ _)))))), by omega, by omega⟩
theorem RightSite_loop (l : List Int) (hl : l.length ≤ 140737488351232) (d : Nat) : ∀ (i s : Int), 0 ≤ i → i + d = 6 → 0 ≤ s → s + 20 * d ≤ 4611686018427370000 →
    ∃ n e s', Ev (fun k => pilemake_Stream_RightSite.l0 k i l s) (n, e, l, s') ∧ Right n e ∧ s ≤ s' ∧ s' ≤ s + 20 * d := by
  induction d with
  | zero =>
    intro i s h0 hi hs _
    refine ⟨0, 0, s, Ev.step (f := fun _ => some _) (fun k => ?_) (Ev.now _), by unfold Right; omega, by omega, by omega⟩
    simp only [pilemake_Stream_RightSite.l0]
    rw [if_neg (by omega)]
  | succ d ih =>
    intro i s h0 hi hs h1
    obtain ⟨n, e, s', e1, b1, c1⟩ := SiteOf_spec l s hs (by omega) hl
    by_cases c : Right n e
    · refine ⟨n, e, s', Ev.succ ?_, c, by omega, by omega⟩
      simp only [pilemake_Stream_RightSite.l0]
      refine Ev.pos (by omega) (Ev.bind e1 ?_)
      simp only [SiteFault_eq, Option.bind_some]
      unfold Right at c
      exact Ev.pos (if_pos c) (Ev.now _)
    · obtain ⟨n2, e2, s2, e3, b2, c2, c3⟩ := ih (i + 1) s' (by omega) (by omega) (by omega) (by omega)
      refine ⟨n2, e2, s2, Ev.succ ?_, b2, by omega, by omega⟩
      simp only [pilemake_Stream_RightSite.l0, wrap_id (e := i + 1) (by omega) (by omega)]
      refine Ev.pos (by omega) (Ev.bind e1 ?_)
      simp only [SiteFault_eq, Option.bind_some]
      unfold Right at c
      exact Ev.neg (by rw [if_neg c]; omega) e3
theorem RightSite_spec (l : List Int) (s : Int) (h0 : 0 ≤ s) (h1 : s ≤ 4611686018427360000) (hl : l.length ≤ 140737488351232) :
    ∃ n e s', Ev (fun k => pilemake_Stream_RightSite.f k l s) (n, e, l, s') ∧ Right n e ∧ s ≤ s' ∧ s' ≤ s + 120 := by
  obtain ⟨n, e, s', a, b, c, d⟩ := RightSite_loop l hl 6 0 s (by omega) (by omega) h0 (by omega)
  exact ⟨n, e, s', a, b, c, by omega⟩
end Go.EV.Pure
namespace Go.EV.Pure
open Go Go.EV Go.RowKit
set_option linter.unusedSimpArgs false
/-! How far sites are from each other there and back, winds, ways. -/
theorem root_ex (x : Int) (n : Nat) : ∀ a b : Int, 0 ≤ a → a ≤ b → b ≤ 2147483648 → b - a ≤ n → ∃ r, Ev (fun k => place_root.l0 k x a b) r := by
  induction n with
  | zero =>
    intro a b h0 h1 h2 h3
    refine ⟨a, Ev.step (f := fun _ => some _) (fun k => ?_) (Ev.now _)⟩
    simp only [place_root.l0]
    rw [wrap_id (e := a + 1) (by omega) (by omega), if_neg (by omega)]
  | succ n ih =>
    intro a b h0 h1 h2 h3
    by_cases c : a + 1 < b
    · have hm : wrap64 (Int.tdiv (wrap64 (a + b)) 2) = (a + b) / 2 := by
        rw [wrap_id (e := a + b) (by omega) (by omega), tdiv_pos (by omega), wrap_id (by omega) (by omega)]
      by_cases d : wrap64 ((a + b) / 2 * ((a + b) / 2)) ≤ x
      · obtain ⟨r, r1⟩ := ih ((a + b) / 2) b (by omega) (by omega) h2 (by omega)
        refine ⟨r, Ev.step (fun k => ?_) r1⟩
        simp only [place_root.l0]
        rw [wrap_id (e := a + 1) (by omega) (by omega), if_pos c, hm, if_pos d]
      · obtain ⟨r, r1⟩ := ih a ((a + b) / 2) (by omega) (by omega) (by omega) (by omega)
        refine ⟨r, Ev.step (fun k => ?_) r1⟩
        simp only [place_root.l0]
        rw [wrap_id (e := a + 1) (by omega) (by omega), if_pos c, hm, if_neg d]
    · refine ⟨a, Ev.step (f := fun _ => some _) (fun k => ?_) (Ev.now _)⟩
      simp only [place_root.l0]
      rw [wrap_id (e := a + 1) (by omega) (by omega), if_neg c]
theorem dist_ex (x : Int) : ∃ r, ∀ an ae bn be, Right an ae → Right bn be → wrap64 ((wrap64 ((metresV an ae bn be).1 * (metresV an ae bn be).1)) + (wrap64 ((metresV an ae bn be).2 * (metresV an ae bn be).2))) = x → Ev (fun k => place_distance.f k an ae bn be) r := by
  obtain ⟨r, r1⟩ := root_ex x 2147483648 0 2147483648 (by omega) (by omega) (by omega) (by omega)
  exact ⟨r, fun an ae bn be ha hb hx => Ev.bind (metres_ev an ae bn be ha hb) (by simp only [hx]; exact Ev.bind r1 (Ev.now _))⟩
theorem around_neg (d : Int) : aroundV (-d) = -(aroundV d) ∨ (aroundV d = -648000 ∧ aroundV (-d) = -648000) := by unfold aroundV; omega
theorem northV_neg (d : Int) : northV (-d) = -(northV d) := by
  unfold northV
  rw [Int.neg_mul, Int.neg_tdiv]
theorem eastV_neg (d m : Int) : eastV (-d) m = -(eastV d m) := by
  unfold eastV
  rw [Int.neg_mul, Int.neg_tdiv, Int.neg_mul, Int.neg_tdiv]
/-- There and back. -/
theorem metres_back (an ae bn be : Int) : (metresV bn be an ae).1 = -(metresV an ae bn be).1 ∧ ((metresV bn be an ae).2 = -(metresV an ae bn be).2 ∨ (aroundV (be - ae) = -648000 ∧ (metresV bn be an ae).2 = (metresV an ae bn be).2)) := by
  unfold metresV
  have e1 : an - bn = -(bn - an) := by omega
  have e2 : ae - be = -(be - ae) := by omega
  have e3 : bn + an = an + bn := by omega
  rw [e1, e2, e3]
  refine ⟨northV_neg _, ?_⟩
  rcases around_neg (be - ae) with h | ⟨h1, h2⟩
  · left
    rw [h]; exact eastV_neg _ _
  · right
    exact ⟨h1, by simp only [h1, h2]⟩
theorem distances (an ae bn be : Int) (ha : Right an ae) (hb : Right bn be) : ∃ r, Ev (fun k => place_distance.f k an ae bn be) r ∧ Ev (fun k => place_distance.f k bn be an ae) r := by
  obtain ⟨r, h⟩ := dist_ex (wrap64 ((wrap64 ((metresV an ae bn be).1 * (metresV an ae bn be).1)) + (wrap64 ((metresV an ae bn be).2 * (metresV an ae bn be).2))))
  refine ⟨r, h _ _ _ _ ha hb rfl, h _ _ _ _ hb ha ?_⟩
  obtain ⟨h1, h2⟩ := metres_back an ae bn be
  rw [h1, Int.neg_mul_neg]
  rcases h2 with h2 | ⟨_, h2⟩
  · rw [h2, Int.neg_mul_neg]
  · rw [h2]
theorem checkBoth_eq (an ae bn be : Int) : place_checkBoth.f an ae bn be = some (if ((-324000 ≤ an ∧ an ≤ 324000) ∧ -648000 ≤ ae ∧ ae ≤ 647999) ∧ ((-324000 ≤ bn ∧ bn ≤ 324000) ∧ -648000 ≤ be ∧ be ≤ 647999) then 0 else 1) := by
  unfold place_checkBoth.f
  rw [CheckSite_eq]
  simp only [Option.bind_some]
  by_cases h1 : (-324000 ≤ an ∧ an ≤ 324000) ∧ -648000 ≤ ae ∧ ae ≤ 647999
  · rw [if_pos h1, if_pos rfl, CheckSite_eq]
    by_cases h2 : (-324000 ≤ bn ∧ bn ≤ 324000) ∧ -648000 ≤ be ∧ be ≤ 647999
    · rw [if_pos h2, if_pos ⟨h1, h2⟩]; rfl
    · rw [if_neg h2, if_neg (fun h => h2 h.2)]; rfl
  · rw [if_neg h1, if_neg (by omega), if_neg (fun h => h1 h.1)]
/-- The sites of a way. -/
def wayP (an ae dn de p : Int) (i : Nat) : Int × Int := (an + Int.tdiv (dn * i) p, aroundV (ae + Int.tdiv (de * i) p))
theorem wayP_first (an ae bn be p : Int) (ha : Right an ae) : wayP an ae (bn - an) (aroundV (be - ae)) p 0 = (an, ae) := by
  unfold wayP Right aroundV at *
  simp
  omega
end Go.EV.Pure
namespace Go.EV.Pure
open Go Go.EV Go.RowKit
set_option linter.unusedSimpArgs false
/-! Locators: of sites, their areas and middles. -/
theorem bt_bytes (l : List Int) (i : Nat) (h : i < l.length) (h0 : 0 ≤ l[i] ∧ l[i] < 256) : bt (bytesE l) (i : Int) = l[i] := by
  unfold bt bytesE
  have hs : (Int.toNat (i : Int)) < (strOfNums l).size := by rw [strOfNums_size]; simpa using h
  rw [dif_pos hs]
  have : (strOfNums l)[Int.toNat (i : Int)]'hs = UInt8.ofNat (l[i]).toNat := by
    show (strOfNums l).data[Int.toNat (i : Int)] = _
    simp [strOfNums]
  rw [this, UInt8.toNat_ofNat']
  omega
theorem bytes_size (l : List Int) : (bytesE l).size = l.length := strOfNums_size l
def lvF (i : Nat) : Int := if i < 2 then 97 else if i < 4 then 48 else 97
def lvM (i : Nat) : Int := if i < 2 then 18 else if i < 4 then 10 else 24
def lvW (i : Nat) : Int := if i < 2 then 72000 else if i < 4 then 7200 else 300
def lvH (i : Nat) : Int := if i < 2 then 36000 else if i < 4 then 3600 else 150
def lvL : List (Int × Int × Int × Int) := [(18, 97, 72000, 36000), (10, 48, 7200, 3600), (24, 97, 300, 150)]
theorem levels_eq : place_levels.f = some lvL := rfl
theorem six (i : Nat) (h : i < 6) : i = 0 ∨ i = 1 ∨ i = 2 ∨ i = 3 ∨ i = 4 ∨ i = 5 := by omega
theorem lv_rd (i : Nat) (h : i < 6) : wrap64 (Int.tdiv (i : Int) 2) = ((i / 2 : Nat) : Int) ∧ rdE e_IIII lvL ((i / 2 : Nat) : Int) = (lvM i, lvF i, lvW i, lvH i) := by
  rcases six i h with rfl | rfl | rfl | rfl | rfl | rfl <;> exact ⟨by rw [tdiv_pos (by omega), wrap_id (by omega) (by omega)]; rfl, rfl⟩
/-- The number that a byte of a locator stands for. -/
def lvV (s : ByteArray) (i : Nat) : Int := bt s (i : Int) - lvF i
def locOK (s : ByteArray) : Prop := (s.size = 2 ∨ s.size = 4 ∨ s.size = 6) ∧ ∀ i < s.size, 0 ≤ lvV s i ∧ lvV s i < lvM i
theorem lvM_bd (i : Nat) : 0 < lvM i ∧ lvM i < 200 := by unfold lvM; split <;> (try split) <;> omega
theorem area_step (s : ByteArray) (i : Nat) (h6 : i + 1 < 6) (he : i % 2 = 0) (hi : i + 1 < s.size) (v0 : 0 ≤ lvV s i ∧ lvV s i < 200) (v1 : 0 ≤ lvV s (i + 1) ∧ lvV s (i + 1) < 200) (n e : Int) (hn : -100000000 ≤ n ∧ n ≤ 100000000) (hE : -100000000 ≤ e ∧ e ≤ 100000000) (a b c d : Int) {r : Int × Int × Int × Int}
    (h : Ev (fun k => place_area.l0 k s ((i + 2 : Nat) : Int) (n + lvV s (i + 1) * lvH i) (e + lvV s i * lvW i) (lvM i) (lvF i) (lvW i) (lvH i)) r) : Ev (fun k => place_area.l0 k s (i : Int) n e a b c d) r := by
  obtain ⟨q1, q2⟩ := lv_rd i (by omega)
  have hlen : (lvL.length : Int) = 3 := rfl
  have hF : lvF (i + 1) = lvF i := by unfold lvF; rcases six i (by omega) with rfl | rfl | rfl | rfl | rfl | rfl <;> first | rfl | omega
  have hW : 0 ≤ lvW i ∧ lvW i ≤ 72000 := by unfold lvW; split <;> (try split) <;> omega
  have hH : 0 ≤ lvH i ∧ lvH i ≤ 36000 := by unfold lvH; split <;> (try split) <;> omega
  have w1 : wrap64 ((i : Int) + 1) = ((i + 1 : Nat) : Int) := wrap_succ (by omega)
  have w2 : wrap64 ((i : Int) + 2) = ((i + 2 : Nat) : Int) := by rw [wrap_id (by omega) (by omega)]; rfl
  have e0 : wrap64 ((bt s (i : Int) - lvF i) % 256) = lvV s i := by rw [wrap_id (by omega) (by omega)]; have hv := v0; unfold lvV at hv ⊢; omega
  have e1 : wrap64 ((bt s ((i + 1 : Nat) : Int) - lvF i) % 256) = lvV s (i + 1) := by rw [wrap_id (by omega) (by omega)]; have hv := v1; unfold lvV at hv ⊢; rw [hF] at hv ⊢; omega
  have m0 := mul_bd (lvV s i) (lvW i) 200 72000 (by omega) (by omega) (by omega) (by omega)
  have m1 := mul_bd (lvV s (i + 1)) (lvH i) 200 36000 (by omega) (by omega) (by omega) (by omega)
  refine Ev.step (fun k => ?_) h
  simp only [place_area.l0, levels_eq, Option.bind_some, q1, q2, hlen, w1, w2, e0, e1]
  rw [if_pos (by omega), if_pos (by omega), if_pos (by omega), if_pos (by omega), if_pos (by omega), if_pos (by omega), if_pos (by omega)]
  rw [wrap_id (e := lvV s i * lvW i) (by omega) (by omega), wrap_id (e := lvV s (i + 1) * lvH i) (by omega) (by omega), wrap_id (e := n + lvV s (i + 1) * lvH i) (by omega) (by omega), wrap_id (e := e + lvV s i * lvW i) (by omega) (by omega)]
theorem area_end (s : ByteArray) (i : Nat) (hi : s.size = i + 2) (h6 : i + 1 < 6) (n e : Int) (hn : -100000000 ≤ n ∧ n ≤ 100000000) (hE : -100000000 ≤ e ∧ e ≤ 100000000) :
    Ev (fun k => place_area.l0 k s ((i + 2 : Nat) : Int) n e (lvM i) (lvF i) (lvW i) (lvH i)) (n, e, n + lvH i, e + lvW i) := by
  have hW : 0 ≤ lvW i ∧ lvW i ≤ 72000 ∧ lvW i = 2 * lvH i := by unfold lvW lvH; split <;> (try split) <;> omega
  refine Ev.step (f := fun _ => some _) (fun k => ?_) (Ev.now _)
  simp only [place_area.l0]
  rw [if_neg (by omega), wrap_id (by omega) (by omega), wrap_id (by omega) (by omega)]
/-- The digits of a site, from the south-west. -/
def dig (N E : Int) : List Int := [97 + E / 72000, 97 + N / 36000, 48 + E % 72000 / 7200, 48 + N % 36000 / 3600, 97 + E % 72000 % 7200 / 300, 97 + N % 36000 % 3600 / 150]
def loc (N E : Int) (m : Nat) : ByteArray := bytesE ((dig N E).take m)
def inW (N E : Int) : Prop := (0 ≤ N ∧ N ≤ 647999) ∧ 0 ≤ E ∧ E ≤ 1295999
theorem dig_bd (N E : Int) (h : inW N E) : ∀ i : Nat, (hi : i < 6) → 0 ≤ (dig N E)[i]'(by simpa [dig] using hi) - lvF i ∧ (dig N E)[i]'(by simpa [dig] using hi) - lvF i < lvM i := by
  intro i hi
  unfold inW at h
  rcases six i hi with rfl | rfl | rfl | rfl | rfl | rfl <;> simp [dig, lvF, lvM] <;> omega
theorem loc_size (N E : Int) (m : Nat) (hm : m ≤ 6) : (loc N E m).size = m := by
  unfold loc
  rw [bytes_size]
  simp [dig]
  omega
theorem loc_V (N E : Int) (m : Nat) (h : inW N E) (hm : m ≤ 6) (i : Nat) (hi : i < m) : lvV (loc N E m) i = (dig N E)[i]'(by simp [dig]; omega) - lvF i := by
  have hb := dig_bd N E h i (by omega)
  have hl : i < ((dig N E).take m).length := by simp [dig]; omega
  have hF : 0 ≤ lvF i ∧ lvF i ≤ 97 := by unfold lvF; split <;> (try split) <;> omega
  have hM := lvM_bd i
  have hM2 : lvM i ≤ 24 := by unfold lvM; split <;> (try split) <;> omega
  have e : ((dig N E).take m)[i] = (dig N E)[i]'(by simp [dig]; omega) := by simp
  unfold lvV loc
  rw [bt_bytes _ i hl (by rw [e]; omega), e]
/-- How high areas are. -/
def hOf (m : Nat) : Int := if m = 2 then 36000 else if m = 4 then 3600 else 150
theorem area_ev (N E : Int) (m : Nat) (h : inW N E) (hm : m = 2 ∨ m = 4 ∨ m = 6) :
    Ev (fun k => place_area.f k (loc N E m)) (N - N % hOf m - 324000, E - E % (2 * hOf m) - 648000, N - N % hOf m - 324000 + hOf m, E - E % (2 * hOf m) - 648000 + 2 * hOf m) := by
  have hs := loc_size N E m (by omega)
  have hV := fun i hi => loc_V N E m h (by omega) i hi
  have hB := dig_bd N E h
  have H0 : lvH 0 = 36000 := rfl
  have H2 : lvH 2 = 3600 := rfl
  have H4 : lvH 4 = 150 := rfl
  have W0 : lvW 0 = 72000 := rfl
  have W2 : lvW 2 = 7200 := rfl
  have W4 : lvW 4 = 300 := rfl
  have k0 : lvV (loc N E m) 0 = E / 72000 := by rw [hV 0 (by omega)]; simp [dig, lvF] <;> omega
  have k1 : lvV (loc N E m) (0 + 1) = N / 36000 := by rw [hV 1 (by omega)]; simp [dig, lvF] <;> omega
  unfold inW at h
  unfold place_area.f
  generalize loc N E m = s at *
  rcases hm with rfl | rfl | rfl
  · refine area_step s 0 (by omega) rfl (by omega) (by omega) (by omega) _ _ (by omega) (by omega) _ _ _ _ ?_
    have := area_end s 0 hs (by omega) (-324000 + lvV s (0 + 1) * lvH 0) (-648000 + lvV s 0 * lvW 0) (by rw [k1, H0]; omega) (by rw [k0, W0]; omega)
    have e : (-324000 + lvV s (0 + 1) * lvH 0, -648000 + lvV s 0 * lvW 0, -324000 + lvV s (0 + 1) * lvH 0 + lvH 0, -648000 + lvV s 0 * lvW 0 + lvW 0) = (N - N % hOf 2 - 324000, E - E % (2 * hOf 2) - 648000, N - N % hOf 2 - 324000 + hOf 2, E - E % (2 * hOf 2) - 648000 + 2 * hOf 2) := by
      rw [k0, k1, H0, W0]
      have : hOf 2 = 36000 := rfl
      rw [this]
      refine Prod.ext (by simp only; omega) (Prod.ext (by simp only; omega) (Prod.ext (by simp only; omega) (by simp only; omega)))
    rw [← e]
    exact this
  · have k2 : lvV s 2 = E % 72000 / 7200 := by rw [hV 2 (by omega)]; simp [dig, lvF] <;> omega
    have k3 : lvV s (2 + 1) = N % 36000 / 3600 := by rw [hV 3 (by omega)]; simp [dig, lvF] <;> omega
    refine area_step s 0 (by omega) rfl (by omega) (by omega) (by omega) _ _ (by omega) (by omega) _ _ _ _ ?_
    refine area_step s 2 (by omega) rfl (by omega) (by omega) (by omega) _ _ (by rw [k1, H0]; omega) (by rw [k0, W0]; omega) _ _ _ _ ?_
    have := area_end s 2 hs (by omega) (-324000 + lvV s (0 + 1) * lvH 0 + lvV s (2 + 1) * lvH 2) (-648000 + lvV s 0 * lvW 0 + lvV s 2 * lvW 2) (by rw [k1, k3, H0, H2]; omega) (by rw [k0, k2, W0, W2]; omega)
    have e : (-324000 + lvV s (0 + 1) * lvH 0 + lvV s (2 + 1) * lvH 2, -648000 + lvV s 0 * lvW 0 + lvV s 2 * lvW 2, -324000 + lvV s (0 + 1) * lvH 0 + lvV s (2 + 1) * lvH 2 + lvH 2, -648000 + lvV s 0 * lvW 0 + lvV s 2 * lvW 2 + lvW 2) = (N - N % hOf 4 - 324000, E - E % (2 * hOf 4) - 648000, N - N % hOf 4 - 324000 + hOf 4, E - E % (2 * hOf 4) - 648000 + 2 * hOf 4) := by
      rw [k0, k1, k2, k3, H0, W0, H2, W2]
      have : hOf 4 = 3600 := rfl
      rw [this]
      refine Prod.ext (by simp only; omega) (Prod.ext (by simp only; omega) (Prod.ext (by simp only; omega) (by simp only; omega)))
    rw [← e]
    exact this
  · have k2 : lvV s 2 = E % 72000 / 7200 := by rw [hV 2 (by omega)]; simp [dig, lvF] <;> omega
    have k3 : lvV s (2 + 1) = N % 36000 / 3600 := by rw [hV 3 (by omega)]; simp [dig, lvF] <;> omega
    have k4 : lvV s 4 = E % 72000 % 7200 / 300 := by rw [hV 4 (by omega)]; simp [dig, lvF] <;> omega
    have k5 : lvV s (4 + 1) = N % 36000 % 3600 / 150 := by rw [hV 5 (by omega)]; simp [dig, lvF] <;> omega
    refine area_step s 0 (by omega) rfl (by omega) (by omega) (by omega) _ _ (by omega) (by omega) _ _ _ _ ?_
    refine area_step s 2 (by omega) rfl (by omega) (by omega) (by omega) _ _ (by rw [k1, H0]; omega) (by rw [k0, W0]; omega) _ _ _ _ ?_
    refine area_step s 4 (by omega) rfl (by omega) (by omega) (by omega) _ _ (by rw [k1, k3, H0, H2]; omega) (by rw [k0, k2, W0, W2]; omega) _ _ _ _ ?_
    have := area_end s 4 hs (by omega) (-324000 + lvV s (0 + 1) * lvH 0 + lvV s (2 + 1) * lvH 2 + lvV s (4 + 1) * lvH 4) (-648000 + lvV s 0 * lvW 0 + lvV s 2 * lvW 2 + lvV s 4 * lvW 4) (by rw [k1, k3, k5, H0, H2, H4]; omega) (by rw [k0, k2, k4, W0, W2, W4]; omega)
    have e : (-324000 + lvV s (0 + 1) * lvH 0 + lvV s (2 + 1) * lvH 2 + lvV s (4 + 1) * lvH 4, -648000 + lvV s 0 * lvW 0 + lvV s 2 * lvW 2 + lvV s 4 * lvW 4, -324000 + lvV s (0 + 1) * lvH 0 + lvV s (2 + 1) * lvH 2 + lvV s (4 + 1) * lvH 4 + lvH 4, -648000 + lvV s 0 * lvW 0 + lvV s 2 * lvW 2 + lvV s 4 * lvW 4 + lvW 4) = (N - N % hOf 6 - 324000, E - E % (2 * hOf 6) - 648000, N - N % hOf 6 - 324000 + hOf 6, E - E % (2 * hOf 6) - 648000 + 2 * hOf 6) := by
      rw [k0, k1, k2, k3, k4, k5, H0, W0, H2, W2, H4, W4]
      have : hOf 6 = 150 := rfl
      rw [this]
      refine Prod.ext (by simp only; omega) (Prod.ext (by simp only; omega) (Prod.ext (by simp only; omega) (by simp only; omega)))
    rw [← e]
    exact this
end Go.EV.Pure
namespace Go.EV.Pure
open Go Go.EV Go.RowKit
set_option linter.unusedSimpArgs false
/-! Locators: any strings of ASCII. -/
theorem bt_bd (s : ByteArray) (i : Int) : 0 ≤ bt s i ∧ bt s i < 256 := by
  unfold bt
  split
  · rename_i h
    have := (s[i.toNat]'h).toNat_lt
    omega
  · omega
theorem lvF_bd (i : Nat) : 48 ≤ lvF i ∧ lvF i ≤ 97 := by unfold lvF; split <;> (try split) <;> omega
theorem IsLocator_run (s : ByteArray) (h6 : s.size ≤ 6) (d : Nat) : ∀ i : Nat, i + d = s.size → (∀ j < i, 0 ≤ lvV s j ∧ lvV s j < lvM j) → ∃ b : Bool, (b = true ↔ ∀ j < s.size, 0 ≤ lvV s j ∧ lvV s j < lvM j) ∧ Ev (fun k => place_IsLocator.l0 k s (i : Int)) b := by
  induction d with
  | zero =>
    intro i hi hj
    refine ⟨true, ⟨fun _ => by rw [← show i = s.size by omega]; exact hj, fun _ => rfl⟩, Ev.step (f := fun _ => some _) (fun k => ?_) (Ev.now _)⟩
    simp only [place_IsLocator.l0]
    rw [if_neg (by omega)]
  | succ d ih =>
    intro i hi hj
    obtain ⟨q1, q2⟩ := lv_rd i (by omega)
    have hM := lvM_bd i
    have hF := lvF_bd i
    have hb := bt_bd s (i : Int)
    have hlen : (lvL.length : Int) = 3 := rfl
    have hv : lvV s i = bt s (i : Int) - lvF i := rfl
    by_cases c : bt s (i : Int) < lvF i
    · refine ⟨false, ⟨fun h => (by cases h), fun h => (by have := h i (by omega); omega)⟩, Ev.succ ?_⟩
      simp only [place_IsLocator.l0, levels_eq, Option.bind_some, q1, q2, hlen]
      exact Ev.pos (by omega) (Ev.pos (by omega) (Ev.pos (by omega) (Ev.pos (by omega) (Ev.pos (by omega) (Ev.pos c (Ev.now _))))))
    · have e0 : (bt s (i : Int) - lvF i) % 256 = bt s (i : Int) - lvF i := by omega
      by_cases c2 : bt s (i : Int) - lvF i ≥ lvM i
      · refine ⟨false, ⟨fun h => (by cases h), fun h => (by have := h i (by omega); omega)⟩, Ev.succ ?_⟩
        simp only [place_IsLocator.l0, levels_eq, Option.bind_some, q1, q2, hlen, e0, wrap_id (e := bt s (i : Int) - lvF i) (by omega) (by omega)]
        exact Ev.pos (by omega) (Ev.pos (by omega) (Ev.pos (by omega) (Ev.pos (by omega) (Ev.pos (by omega) (Ev.neg c (Ev.pos (by omega) (Ev.pos (by omega) (Ev.pos c2 (Ev.now _)))))))))
      · obtain ⟨b, hb1, hb2⟩ := ih (i + 1) (by omega) (fun j hj2 => by
          rcases Nat.lt_or_ge j i with h | h
          · exact hj j h
          · obtain rfl : j = i := by omega
            omega)
        refine ⟨b, hb1, Ev.succ ?_⟩
        simp only [place_IsLocator.l0, levels_eq, Option.bind_some, q1, q2, hlen, e0, wrap_id (e := bt s (i : Int) - lvF i) (by omega) (by omega), wrap_succ (show i ≤ 1000000000000000 by omega)]
        exact Ev.pos (by omega) (Ev.pos (by omega) (Ev.pos (by omega) (Ev.pos (by omega) (Ev.pos (by omega) (Ev.neg c (Ev.pos (by omega) (Ev.pos (by omega) (Ev.neg c2 hb2))))))))
instance (s : ByteArray) : Decidable (locOK s) := by unfold locOK; infer_instance
theorem IsLocator_any (s : ByteArray) : Ev (fun k => place_IsLocator.f k s) (decide (locOK s)) := by
  by_cases c : s.size = 2 ∨ s.size = 4 ∨ s.size = 6
  · obtain ⟨b, h1, h2⟩ := IsLocator_run s (by omega) s.size 0 (by omega) (fun j h => by omega)
    have e : decide (locOK s) = b := by
      by_cases hb : b = true
      · rw [hb]; simp only [decide_eq_true_eq]; exact ⟨c, h1.1 hb⟩
      · have : ¬ locOK s := fun h => hb (h1.2 h.2)
        simp [this, hb]
    rw [e]
    unfold place_IsLocator.f
    rcases c with c | c | c
    · exact Ev.pos (by omega) h2
    · exact Ev.neg (by omega) (Ev.pos (by omega) h2)
    · exact Ev.neg (by omega) (Ev.neg (by omega) (Ev.pos (by omega) h2))
  · have : ¬ locOK s := fun h => c h.1
    simp only [this, decide_false]
    unfold place_IsLocator.f
    exact Ev.neg (by omega) (Ev.neg (by omega) (Ev.neg (by omega) (Ev.now _)))
/-! The reference. -/
def limS : ByteArray := ⟨#[114, 114, 57, 57, 120, 120]⟩
theorem lim_at (i : Nat) (h : i < 6) : bt limS (i : Int) = lvF i + lvM i - 1 := by
  rcases six i h with rfl | rfl | rfl | rfl | rfl | rfl <;> rfl
theorem lim_low (i : Nat) (h : i < 6) : (bt limS (i : Int) = 57 → lvF i = 48) ∧ (¬ bt limS (i : Int) = 57 → lvF i = 97) := by
  rcases six i h with rfl | rfl | rfl | rfl | rfl | rfl <;> decide
theorem dec_asc {s : ByteArray} (ha : asciiT s = true) (j : Nat) (h : j < s.size) : (Utf8.decode s j).2 = 1 := by
  have hl : j < s.data.toList.length := by rw [Array.length_toList]; exact h
  have hb : (s[j]'h).toNat < 128 := by
    unfold asciiT at ha
    rw [List.all_eq_true] at ha
    have := ha _ (List.getElem_mem hl)
    simp only [decide_eq_true_eq, Array.getElem_toList] at this
    exact this
  rw [decode_ascii s j h hb]
theorem LocatorRight_run (s : ByteArray) (ha : asciiT s = true) (h6 : s.size ≤ 6) (d : Nat) : ∀ i : Nat, i + d = s.size → (∀ j < i, 0 ≤ lvV s j ∧ lvV s j < lvM j) → ∃ b : Bool, (b = true ↔ ∀ j < s.size, 0 ≤ lvV s j ∧ lvV s j < lvM j) ∧ Ev (fun k => pileref1_LocatorRight.l0 k s i) b := by
  have hlim : (⟨#[114, 114, 57, 57, 120, 120]⟩ : ByteArray) = limS := rfl
  have hls : (limS.size : Int) = 6 := rfl
  induction d with
  | zero =>
    intro i hi hj
    refine ⟨true, ⟨fun _ => by rw [← show i = s.size by omega]; exact hj, fun _ => rfl⟩, Ev.step (f := fun _ => some _) (fun k => ?_) (Ev.now _)⟩
    simp only [pileref1_LocatorRight.l0]
    rw [if_neg (by omega)]
  | succ d ih =>
    intro i hi hj
    have hM := lvM_bd i
    have hF := lvF_bd i
    have hb := bt_bd s (i : Int)
    have hv : lvV s i = bt s (i : Int) - lvF i := rfl
    have hd := dec_asc ha i (by omega)
    have ha1 := lim_at i (by omega)
    have ha2 := lim_low i (by omega)
    have key : ∃ b : Bool, (b = true ↔ ∀ j < s.size, 0 ≤ lvV s j ∧ lvV s j < lvM j) ∧ Ev (fun k => pileref1_LocatorRight.j10 k s i (lvF i)) b := by
      by_cases c : bt s (i : Int) < lvF i
      · refine ⟨false, ⟨fun h => (by cases h), fun h => (by have := h i (by omega); omega)⟩, Ev.succ ?_⟩
        simp only [pileref1_LocatorRight.j10, hlim]
        exact Ev.pos (by omega) (Ev.pos (by omega) (Ev.pos c (Ev.now _)))
      · by_cases c2 : bt s (i : Int) > bt limS (i : Int)
        · refine ⟨false, ⟨fun h => (by cases h), fun h => (by have := h i (by omega); omega)⟩, Ev.succ ?_⟩
          simp only [pileref1_LocatorRight.j10, hlim]
          exact Ev.pos (by omega) (Ev.pos (by omega) (Ev.neg c (Ev.pos (by omega) (Ev.pos (by omega) (Ev.pos c2 (Ev.now _))))))
        · obtain ⟨b, hb1, hb2⟩ := ih (i + 1) (by omega) (fun j hj2 => by
            rcases Nat.lt_or_ge j i with h | h
            · exact hj j h
            · obtain rfl : j = i := by omega
              omega)
          refine ⟨b, hb1, Ev.succ ?_⟩
          simp only [pileref1_LocatorRight.j10, hlim, hd]
          exact Ev.pos (by omega) (Ev.pos (by omega) (Ev.neg c (Ev.pos (by omega) (Ev.pos (by omega) (Ev.neg c2 hb2)))))
    obtain ⟨b, hb1, hb2⟩ := key
    refine ⟨b, hb1, Ev.succ ?_⟩
    simp only [pileref1_LocatorRight.l0, hlim, hls]
    refine Ev.pos (by omega) (Ev.pos (by omega) (Ev.pos (by omega) ?_))
    by_cases c : bt limS (i : Int) = 57
    · have := ha2.1 c
      rw [this] at hb2
      exact Ev.pos c hb2
    · have := ha2.2 c
      rw [this] at hb2
      exact Ev.neg c hb2
theorem LocatorRight_any (s : ByteArray) (ha : asciiT s = true) : Ev (fun k => pileref1_LocatorRight.f k s) (decide (locOK s)) := by
  by_cases c : s.size = 2 ∨ s.size = 4 ∨ s.size = 6
  · obtain ⟨b, h1, h2⟩ := LocatorRight_run s ha (by omega) s.size 0 (by omega) (fun j h => by omega)
    have e : decide (locOK s) = b := by
      by_cases hb : b = true
      · rw [hb]; simp only [decide_eq_true_eq]; exact ⟨c, h1.1 hb⟩
      · have : ¬ locOK s := fun h => hb (h1.2 h.2)
        simp [this, hb]
    rw [e]
    unfold pileref1_LocatorRight.f
    rcases c with c | c | c
    · exact Ev.pos (by omega) h2
    · exact Ev.neg (by omega) (Ev.pos (by omega) h2)
    · exact Ev.neg (by omega) (Ev.neg (by omega) (Ev.pos (by omega) h2))
  · have : ¬ locOK s := fun h => c h.1
    simp only [this, decide_false]
    unfold pileref1_LocatorRight.f
    exact Ev.neg (by omega) (Ev.neg (by omega) (Ev.neg (by omega) (Ev.now _)))
theorem LocatorFault_any (s : ByteArray) (ha : asciiT s = true) : Ev (fun k => pileref1_LocatorFault.f k s) (if locOK s then 0 else 3) := by
  unfold pileref1_LocatorFault.f
  refine Ev.bind (LocatorRight_any s ha) ?_
  by_cases c : locOK s
  · rw [if_pos c]; exact Ev.pos (by simpa using c) (Ev.now _)
  · rw [if_neg c]; exact Ev.neg (by simpa using c) (Ev.now _)
theorem LocatorsFault_any (L : List ByteArray) (hL : L.length ≤ 2000) (ha : ∀ s ∈ L, asciiT s = true) : Ev (fun k => pileref1_LocatorsFault.f k L) (if ∀ s ∈ L, locOK s then 0 else 3) := by
  obtain ⟨v, rfl, hv⟩ := loop L (fun k i (_ : Unit) => pileref1_LocatorsFault.l0 k L i) (fun i _ => ∀ j (h : j < L.length), j < i → locOK L[j]) (fun v => v = if ∀ s ∈ L, locOK s then 0 else 3)
    (fun i _ hi hj => by
      have hf := LocatorFault_any L[i] (ha _ (List.getElem_mem hi))
      by_cases c : locOK L[i]
      · rw [if_pos c] at hf
        refine .inl ⟨(), fun j h hji => ?_, fun v hv => Ev.succ ?_⟩
        · rcases Nat.lt_or_ge j i with h2 | h2
          · exact hj j h h2
          · obtain rfl : j = i := by omega
            exact c
        · simp only [pileref1_LocatorsFault.l0, rdE_get eS L i hi, wrap_succ (show i ≤ 1000000000000000 by omega)]
          exact Ev.pos (by omega) (Ev.pos (by omega) (Ev.pos (by omega) (Ev.bind hf (Ev.pos rfl hv))))
      · rw [if_neg c] at hf
        refine .inr ⟨3, ?_, Ev.succ ?_⟩
        · rw [if_neg]
          exact fun h => c (h _ (List.getElem_mem hi))
        · simp only [pileref1_LocatorsFault.l0, rdE_get eS L i hi]
          exact Ev.pos (by omega) (Ev.pos (by omega) (Ev.pos (by omega) (Ev.bind hf (Ev.neg (by decide) (Ev.now _))))))
    (fun _ hj => ⟨0, by
      rw [if_pos]
      intro s hs
      obtain ⟨j, h, rfl⟩ := List.getElem_of_mem hs
      exact hj j h h, Ev.step (f := fun _ => some _) (fun k => by simp only [pileref1_LocatorsFault.l0]; rw [if_neg (by omega)]) (Ev.now _)⟩)
    0 () (by omega) (fun j h h2 => by omega)
  unfold pileref1_LocatorsFault.f
  exact Ev.neg (by omega) hv
/-! Right locators are those of sites. -/
theorem bt_ext {a b : ByteArray} (hs : a.size = b.size) (h : ∀ i : Nat, i < a.size → bt a (i : Int) = bt b (i : Int)) : a = b := by
  apply ByteArray.ext
  apply Array.ext
  · exact hs
  · intro i h1 h2
    have := h i h1
    unfold bt at this
    rw [dif_pos (by simpa using h1), dif_pos (by simpa using h2)] at this
    have e : (a[i]'h1).toNat = (b[i]'h2).toNat := Int.ofNat_inj.1 (by simpa using this)
    exact UInt8.toNat_inj.1 e
theorem loc_of (s : ByteArray) (h : locOK s) : ∃ N E, inW N E ∧ s = loc N E s.size ∧ (s.size = 2 ∨ s.size = 4 ∨ s.size = 6) := by
  obtain ⟨hs, hv⟩ := h
  have fin : ∀ N E, inW N E → (∀ i (hi : i < s.size), lvV s i = (dig N E)[i]'(by simp [dig]; omega) - lvF i) → s = loc N E s.size := fun N E hw hd => by
    refine bt_ext (loc_size N E _ (by omega)).symm fun i hi => ?_
    have e1 := hd i hi
    have e2 := loc_V N E s.size hw (by omega) i hi
    unfold lvV at e1 e2
    omega
  have m0 : lvM 0 = 18 := rfl
  have m1 : lvM 1 = 18 := rfl
  have m2 : lvM 2 = 10 := rfl
  have m3 : lvM 3 = 10 := rfl
  have m4 : lvM 4 = 24 := rfl
  have m5 : lvM 5 = 24 := rfl
  have v0 := hv 0 (by omega)
  have v1 := hv 1 (by omega)
  rw [m0] at v0
  rw [m1] at v1
  rcases hs with c | c | c
  · refine ⟨lvV s 1 * 36000, lvV s 0 * 72000, by unfold inW; omega, fin _ _ (by unfold inW; omega) fun i hi => ?_, .inl c⟩
    rcases (by omega : i = 0 ∨ i = 1) with rfl | rfl <;> simp [dig, lvF] <;> omega
  · have v2 := hv 2 (by omega)
    have v3 := hv 3 (by omega)
    rw [m2] at v2
    rw [m3] at v3
    refine ⟨lvV s 1 * 36000 + lvV s 3 * 3600, lvV s 0 * 72000 + lvV s 2 * 7200, by unfold inW; omega, fin _ _ (by unfold inW; omega) fun i hi => ?_, .inr (.inl c)⟩
    rcases (by omega : i = 0 ∨ i = 1 ∨ i = 2 ∨ i = 3) with rfl | rfl | rfl | rfl <;> simp [dig, lvF] <;> omega
  · have v2 := hv 2 (by omega)
    have v3 := hv 3 (by omega)
    have v4 := hv 4 (by omega)
    have v5 := hv 5 (by omega)
    rw [m2] at v2
    rw [m3] at v3
    rw [m4] at v4
    rw [m5] at v5
    refine ⟨lvV s 1 * 36000 + lvV s 3 * 3600 + lvV s 5 * 150, lvV s 0 * 72000 + lvV s 2 * 7200 + lvV s 4 * 300, by unfold inW; omega, fin _ _ (by unfold inW; omega) fun i hi => ?_, .inr (.inr c)⟩
    rcases six i (by omega) with rfl | rfl | rfl | rfl | rfl | rfl <;> simp [dig, lvF] <;> omega
/-! Locators that are drawn. -/
theorem mk_bytes (x : Int) : mk [UInt8.ofNat x.toNat] = bytesE [x] := by
  unfold bytesE
  apply ByteArray.ext
  simp [strOfNums, mk]
theorem encA (x : Int) (h0 : 0 ≤ x) (h1 : x < 128) : Utf8.encode (IntKind.i32.wrap x) = bytesE [x] := by
  have hb : (UInt8.ofNat x.toNat).toNat = x.toNat := by rw [UInt8.toNat_ofNat']; omega
  have := enc_ascii (UInt8.ofNat x.toNat) (by omega)
  rw [hb, show ((x.toNat : Nat) : Int) = x by omega] at this
  rw [this, mk_bytes]
theorem bytes_app (a b : List Int) : bytesE a ++ bytesE b = bytesE (a ++ b) := by
  unfold bytesE
  apply ByteArray.ext
  simp [strOfNums, ByteArray.data_append]
theorem bytes_asc (l : List Int) (h : ∀ x ∈ l, 0 ≤ x ∧ x < 128) : asciiT (bytesE l) = true := by
  unfold asciiT bytesE strOfNums
  rw [List.all_eq_true]
  intro b hb
  simp only [List.mem_map] at hb
  obtain ⟨x, hx, rfl⟩ := hb
  have := h x hx
  rw [UInt8.toNat_ofNat']
  simp
  omega
theorem loc_asc (N E : Int) (m : Nat) (h : inW N E) : asciiT (loc N E m) = true := by
  refine bytes_asc _ fun x hx => ?_
  have hx := List.mem_of_mem_take hx
  unfold inW at h
  simp only [dig, List.mem_cons, List.not_mem_nil, or_false] at hx
  omega
theorem LocatorFor_ev (n e : Int) (hs : Right n e) (m : Nat) (hm : m = 2 ∨ m = 4 ∨ m = 6) : Ev (fun k => pileref1_LocatorFor.f k n e (m : Int)) (loc (mn (n + 324000) 647999) (e + 648000) m) := by
  unfold Right at hs
  obtain ⟨N, hN⟩ : ∃ N, N = mn (n + 324000) 647999 := ⟨_, rfl⟩
  obtain ⟨E, hE⟩ : ∃ E, E = e + 648000 := ⟨_, rfl⟩
  have hNb : 0 ≤ N ∧ N ≤ 647999 := by rw [hN, mn_eq]; split <;> omega
  have hEb : 0 ≤ E ∧ E ≤ 1295999 := by omega
  have one : ∀ (q b : Int), 0 ≤ q → q ≤ 1000000 → 0 < b → b ≤ 24 → pileref1_LocatorFor_1.f q b = some (bytesE [97 + q % b]) := fun q b h0 h1 h2 h3 => by
    have hm0 := Int.emod_nonneg q (show b ≠ 0 by omega)
    have hm1 := Int.emod_lt_of_pos q h2
    unfold pileref1_LocatorFor_1.f
    rw [if_neg (by omega), tmod_pos h0, wrap_id (by omega) (by omega), encA _ (by omega) (by omega)]
  have w1 : wrap64 (n + 324000) = n + 324000 := wrap_id (by omega) (by omega)
  have w2 : wrap64 (e + 648000) = E := by rw [wrap_id (by omega) (by omega)]; omega
  have dv : ∀ (x c : Int), 0 ≤ x → x ≤ 1295999 → 1 ≤ c → wrap64 (Int.tdiv x c) = x / c := fun x c h0 h1 h2 => by
    have q0 : 0 ≤ x / c := Int.ediv_nonneg h0 (by omega)
    have q1 : x / c ≤ x := Int.ediv_le_self _ h0
    rw [tdiv_pos h0, wrap_id (by omega) (by omega)]
  have o1 := one (E / 72000) 18 (by omega) (by omega) (by omega) (by omega)
  have o2 := one (N / 36000) 18 (by omega) (by omega) (by omega) (by omega)
  have o3 := one (E / 300) 24 (by omega) (by omega) (by omega) (by omega)
  have o4 := one (N / 150) 24 (by omega) (by omega) (by omega) (by omega)
  have d1 : Utf8.encode (IntKind.i32.wrap (wrap64 (48 + (Int.tmod (E / 7200) 10)))) = bytesE [48 + E / 7200 % 10] := by
    rw [tmod_pos (by omega), wrap_id (by omega) (by omega), encA _ (by omega) (by omega)]
  have d2 : Utf8.encode (IntKind.i32.wrap (wrap64 (48 + (Int.tmod (N / 3600) 10)))) = bytesE [48 + N / 3600 % 10] := by
    rw [tmod_pos (by omega), wrap_id (by omega) (by omega), encA _ (by omega) (by omega)]
  have sz : ∀ l : List Int, l.length ≤ 10 → (bytesE l).size ≤ 10 := fun l h => by rw [bytes_size]; exact h
  have jE : ∀ s, Ev (fun k => pileref1_LocatorFor.j8 k s) s := fun s => Ev.from 1 fun k => rfl
  unfold pileref1_LocatorFor.f
  simp only [w1, w2, ← hN, dv E 72000 hEb.1 hEb.2 (by omega), dv N 36000 hNb.1 (by omega) (by omega), dv E 7200 hEb.1 hEb.2 (by omega), dv N 3600 hNb.1 (by omega) (by omega), o1, o2, d1, d2, Option.bind_some, bytes_app, List.cons_append, List.nil_append]
  have a1 : E / 72000 % 18 = E / 72000 := by omega
  have a2 : N / 36000 % 18 = N / 36000 := by omega
  have a3 : E / 7200 % 10 = E % 72000 / 7200 := by omega
  have a4 : N / 3600 % 10 = N % 36000 / 3600 := by omega
  have a5 : E / 300 % 24 = E % 72000 % 7200 / 300 := by omega
  have a6 : N / 150 % 24 = N % 36000 % 3600 / 150 := by omega
  rw [a1, a2, a3, a4, ← hE]
  rw [a5] at o3
  rw [a6] at o4
  refine Ev.pos (by rw [bytes_size, bytes_size]; simp) ?_
  have j6 : ∀ s : ByteArray, s.size ≤ 10 → Ev (fun k => pileref1_LocatorFor.j6 k n e (m : Int) s) (if m = 6 then s ++ bytesE [97 + E % 72000 % 7200 / 300, 97 + N % 36000 % 3600 / 150] else s) := fun s hsz => by
    refine Ev.succ ?_
    simp only [pileref1_LocatorFor.j6, w1, w2, ← hN, dv E 300 hEb.1 hEb.2 (by omega), dv N 150 hNb.1 (by omega) (by omega), o3, o4, Option.bind_some, bytes_app, List.cons_append, List.nil_append]
    by_cases c : m = 6
    · rw [if_pos c]
      exact Ev.pos (by omega) (Ev.pos (by rw [bytes_size, bytes_size]; simp) (Ev.pos (by rw [bytes_size]; simp; omega) (jE _)))
    · rw [if_neg c]
      exact Ev.neg (by omega) (jE _)
  rcases hm with rfl | rfl | rfl
  · refine Ev.neg (by omega) ?_
    have := j6 (bytesE [97 + E / 72000, 97 + N / 36000]) (sz _ (by simp))
    rw [if_neg (by omega)] at this
    exact this
  · refine Ev.pos (by omega) (Ev.pos (by rw [bytes_size, bytes_size]; simp) (Ev.pos (by rw [bytes_size, bytes_size]; simp) ?_))
    have := j6 (bytesE [97 + E / 72000, 97 + N / 36000, 48 + E % 72000 / 7200, 48 + N % 36000 / 3600]) (sz _ (by simp))
    rw [if_neg (by omega)] at this
    exact this
  · refine Ev.pos (by omega) (Ev.pos (by rw [bytes_size, bytes_size]; simp) (Ev.pos (by rw [bytes_size, bytes_size]; simp) ?_))
    have := j6 (bytesE [97 + E / 72000, 97 + N / 36000, 48 + E % 72000 / 7200, 48 + N % 36000 / 3600]) (sz _ (by simp))
    rw [if_pos rfl, bytes_app] at this
    exact this
theorem inW_of {n e : Int} (hs : Right n e) : inW (mn (n + 324000) 647999) (e + 648000) := by
  unfold Right at hs
  unfold inW
  rw [mn_eq]
  split <;> omega
theorem LocatorText_spec (l : List Int) (s : Int) (h0 : 0 ≤ s) (h1 : s ≤ 4611686018427350000) (hl : l.length ≤ 140737488351232) :
    ∃ t s', Ev (fun k => pilemake_Stream_LocatorText.f k l s) (t, l, s') ∧ GS 20 t ∧ s ≤ s' ∧ s' ≤ s + 130 := by
  obtain ⟨n, e, s1, e1, hr, a1, b1⟩ := RightSite_spec l s h0 (by omega) hl
  obtain ⟨m, e2, hm⟩ := Pick_spec l s1 [2, 4, 4, 6, 6] (by omega) (by omega) hl (by simp) (by simp)
  simp only [List.mem_cons, List.not_mem_nil, or_false] at hm
  obtain ⟨m, rfl⟩ : ∃ q : Nat, m = q := ⟨m.toNat, by omega⟩
  have e3 := LocatorFor_ev n e hr m (by omega)
  have hg : GS 6 (loc (mn (n + 324000) 647999) (e + 648000) m) := ⟨loc_asc _ _ _ (inW_of hr), by rw [loc_size _ _ _ (by omega)]; omega⟩
  obtain ⟨b, e4⟩ := Flip_spec l (s1 + 1) 12 (by omega) (by omega) (by omega) hl
  unfold pilemake_Stream_LocatorText.f
  by_cases c : b = true
  · obtain ⟨r, s5, e5, hr5, a5, b5⟩ := Changed_GS 6 l (s1 + 1 + 1) _ (⟨#[97, 114, 115, 120, 48, 57, 121]⟩ : ByteArray) (by omega) (by omega) hl hg (by omega) ⟨by decide, by decide⟩ (by decide)
    refine ⟨r, s5, Ev.bind e1 (Ev.bind e2 (Ev.bind e3 (Ev.bind e4 (Ev.pos c (Ev.bind e5 (Ev.from 1 fun k => rfl)))))), ?_, by omega, by omega⟩
    rcases hr5 with h | rfl
    · exact h.mono (by omega)
    · exact ⟨by decide, by decide⟩
  · exact ⟨_, s1 + 1 + 1, Ev.bind e1 (Ev.bind e2 (Ev.bind e3 (Ev.bind e4 (Ev.neg c (Ev.from 1 fun k => rfl))))), hg.mono (by omega), by omega, by omega⟩
theorem LocatorList_end (l : List Int) (hl : l.length ≤ 140737488351232) (o : List ByteArray) (ho : o.length ≤ 100) (hg : ∀ t ∈ o, GS 20 t) (s : Int) (h0 : 0 ≤ s) (h1 : s ≤ 4611686018427340000) (m : Int) :
    ∃ L s', Ev (fun k => pilemake_Stream_LocatorList.l0 k m m o l s) (L, l, s') ∧ (∀ t ∈ L, GS 20 t) ∧ L.length ≤ o.length + 1 ∧ s ≤ s' ∧ s' ≤ s + 200 := by
  obtain ⟨b, e1⟩ := Flip_spec l s 20 (by omega) (by omega) (by omega) hl
  by_cases c : b = true
  · obtain ⟨t, s2, e2, ht, a2, b2⟩ := LocatorText_spec l (s + 1) (by omega) (by omega) hl
    refine ⟨o ++ [t], s2, Ev.succ ?_, fun x hx => ?_, by simp, by omega, by omega⟩
    · simp only [pilemake_Stream_LocatorList.l0]
      exact Ev.neg (by omega) (Ev.bind e1 (Ev.pos c (Ev.bind e2 (Ev.pos (by omega) (Ev.from 1 fun k => rfl)))))
    · rcases List.mem_append.1 hx with h | h
      · exact hg x h
      · rw [List.mem_singleton] at h; rw [h]; exact ht
  · refine ⟨o, s + 1, Ev.succ ?_, hg, by omega, by omega, by omega⟩
    simp only [pilemake_Stream_LocatorList.l0]
    exact Ev.neg (by omega) (Ev.bind e1 (Ev.neg c (Ev.from 1 fun k => rfl)))
theorem LocatorList_run (l : List Int) (hl : l.length ≤ 140737488351232) (m : Int) (hm : m ≤ 50) (d : Nat) : ∀ (i : Int) (o : List ByteArray) (s : Int), 0 ≤ i → i + d = m → o.length ≤ i → (∀ t ∈ o, GS 20 t) → 0 ≤ s → s + 200 * d ≤ 4611686018427330000 →
    ∃ L s', Ev (fun k => pilemake_Stream_LocatorList.l0 k m i o l s) (L, l, s') ∧ (∀ t ∈ L, GS 20 t) ∧ L.length ≤ o.length + d + 1 ∧ s ≤ s' ∧ s' ≤ s + 200 * d + 200 := by
  induction d with
  | zero =>
    intro i o s hi him ho hg h0 h1
    obtain rfl : i = m := by omega
    obtain ⟨L, s', a, b, c, d, e⟩ := LocatorList_end l hl o (by omega) hg s h0 (by omega) i
    exact ⟨L, s', a, b, by omega, d, by omega⟩
  | succ d ih =>
    intro i o s hi him ho hg h0 h1
    obtain ⟨n, e, s1, e1, hr, a1, b1⟩ := RightSite_spec l s h0 (by omega) hl
    obtain ⟨q, e2, hq⟩ := Pick_spec l s1 [4, 4, 6, 6, 6, 2] (by omega) (by omega) hl (by simp) (by simp)
    simp only [List.mem_cons, List.not_mem_nil, or_false] at hq
    obtain ⟨q, rfl⟩ : ∃ x : Nat, q = x := ⟨q.toNat, by omega⟩
    have e3 := LocatorFor_ev n e hr q (by omega)
    have hgn : GS 6 (loc (mn (n + 324000) 647999) (e + 648000) q) := ⟨loc_asc _ _ _ (inW_of hr), by rw [loc_size _ _ _ (by omega)]; omega⟩
    obtain ⟨L, s', r1, r2, r3, r4, r5⟩ := ih (i + 1) (o ++ [loc (mn (n + 324000) 647999) (e + 648000) q]) (s1 + 1) (by omega) (by omega) (by simp; omega) (fun x hx => by
      rcases List.mem_append.1 hx with h | h
      · exact hg x h
      · rw [List.mem_singleton] at h; rw [h]; exact hgn.mono (by omega)) (by omega) (by omega)
    refine ⟨L, s', Ev.succ ?_, r2, by simp at r3; omega, by omega, by omega⟩
    simp only [pilemake_Stream_LocatorList.l0, wrap_id (e := i + 1) (by omega) (by omega)]
    exact Ev.pos (by omega) (Ev.bind e1 (Ev.bind e2 (Ev.bind e3 (Ev.pos (by omega) r1))))
theorem LocatorList_spec (l : List Int) (s : Int) (q : Int) (hq : 0 ≤ q ∧ q ≤ 20) (h0 : 0 ≤ s) (h1 : s ≤ 4611686018427300000) (hl : l.length ≤ 140737488351232) :
    ∃ L s', Ev (fun k => pilemake_Stream_LocatorList.f k l s q) (L, l, s') ∧ (∀ t ∈ L, GS 20 t) ∧ L.length ≤ 30 ∧ s ≤ s' ∧ s' ≤ s + 5000 := by
  obtain ⟨m, e1, m0, m1⟩ := Range_spec l s 0 q h0 (by omega) (by omega) (by omega) (by omega) hl
  obtain ⟨L, s', a, b, c, d, e⟩ := LocatorList_run l hl m (by omega) m.toNat 0 [] (s + 1) (by omega) (by omega) (by simp) (by simp) (by omega) (by omega)
  refine ⟨L, s', Ev.bind e1 a, b, ?_, by omega, by omega⟩
  simp at c
  omega
end Go.EV.Pure
namespace Go.EV.Pure
open Go Go.EV Go.RowKit
set_option maxRecDepth 100000
theorem ready_ev : Ev (fun k => pilekeep1_ready.f k) true := Ev.from 300 fun k => (by kernel_rfl : pilekeep1_ready.f (k + 300) = some true)
end Go.EV.Pure
namespace Go.EV.Pure
open Go Go.EV Go.RowKit
theorem Way_run (an ae bn be : Int) (p : Nat) (ha : Right an ae) (hb : Right bn be) (hp : 1 ≤ p ∧ p ≤ 9) (d : Nat) : ∀ i : Nat, i + d = p + 1 →
    Ev (fun k => place_Way.l0 k an ae (p : Int) (bn - an) (aroundV (be - ae)) (i : Int) ((List.range i).map (wayP an ae (bn - an) (aroundV (be - ae)) p))) ((List.range (p + 1)).map (wayP an ae (bn - an) (aroundV (be - ae)) p), 0) := by
  have hr := aroundV_bd (be - ae)
  have ha' := ha
  have hb' := hb
  unfold Right at ha' hb'
  have hw : wrap64 ((p : Int) + 1) = ((p + 1 : Nat) : Int) := wrap_succ (by omega)
  induction d with
  | zero =>
    intro i hi
    obtain rfl : i = p + 1 := by omega
    refine Ev.step (f := fun _ => some _) (fun k => ?_) (Ev.now _)
    simp only [place_Way.l0, hw]
    rw [if_neg (by omega)]
  | succ d ih =>
    intro i hi
    have m1 := mul_bd (aroundV (be - ae)) i 648000 1000 (by omega) (by omega) (by omega) (by omega)
    have m2 := mul_bd (bn - an) i 648000 1000 (by omega) (by omega) (by omega) (by omega)
    have t1 := tdiv_bd (aroundV (be - ae) * i) p (by omega) 648000000 (by omega) (by omega)
    have t2 := tdiv_bd ((bn - an) * i) p (by omega) 648000000 (by omega) (by omega)
    refine Ev.step (fun k => ?_) (ih (i + 1) (by omega))
    simp only [place_Way.l0, hw]
    rw [if_pos (by omega), if_neg (by omega), if_neg (by omega), wrap_id (e := aroundV (be - ae) * i) (by omega) (by omega), wrap_id (e := Int.tdiv (aroundV (be - ae) * i) p) (by omega) (by omega), wrap_id (e := ae + Int.tdiv (aroundV (be - ae) * i) p) (by omega) (by omega), around_eq _ (by omega) (by omega), Option.bind_some, if_pos (by simp; omega), wrap_id (e := (bn - an) * i) (by omega) (by omega), wrap_id (e := Int.tdiv ((bn - an) * i) p) (by omega) (by omega), wrap_id (e := an + Int.tdiv ((bn - an) * i) p) (by omega) (by omega), wrap_succ (by omega), List.range_succ, List.map_append]
    rfl
theorem Way_spec (an ae bn be : Int) (p : Nat) (ha : Right an ae) (hb : Right bn be) (hp : 1 ≤ p ∧ p ≤ 9) :
    Ev (fun k => place_Way.f k an ae bn be (p : Int)) ((List.range (p + 1)).map (wayP an ae (bn - an) (aroundV (be - ae)) p), 0) := by
  unfold place_Way.f
  simp only [checkBoth_eq, Option.bind_some, Outside_eq, between_eq an ae bn be ha hb]
  exact Ev.pos (if_pos ⟨ha, hb⟩) (Ev.neg (by simp; omega) (Way_run an ae bn be p ha hb hp (p + 1) 0 (by omega)))
end Go.EV.Pure
namespace Go.EV.Pure
open Go Go.EV Go.RowKit
theorem EqualStr_same (D : List ByteArray) (hl : D.length ≤ 20000) : Ev (fun k => slices_Equal_string_string.f k D D) true := by
  obtain ⟨v, rfl, hv⟩ := loop D (fun k i (_ : Unit) => slices_Equal_string_string.l0 k D D i) (fun _ _ => True) (fun v => v = true)
    (fun i _ hi _ => .inl ⟨(), trivial, fun v hv => Ev.step (fun k => by
      simp only [slices_Equal_string_string.l0]
      rw [if_pos (by omega), if_pos (by omega), if_pos (by omega), if_pos (by omega), if_pos (by omega), if_pos trivial, wrap_succ (by omega)]) hv⟩)
    (fun _ _ => ⟨true, rfl, Ev.step (f := fun _ => some _) (fun k => by simp only [slices_Equal_string_string.l0]; rw [if_neg (by omega)]) (Ev.now _)⟩) 0 () (by omega) trivial
  unfold slices_Equal_string_string.f
  exact Ev.pos rfl hv
/-- Squares: some answer. -/
theorem Squares_ex (L : List ByteArray) (hL : L.length ≤ 100) : ∃ r, Ev (fun k => place_Squares.f k L) r ∧ r.1.length ≤ 100 := by
  obtain ⟨v, hv1, hv⟩ := loop L (fun k i (o : List (ByteArray × Bool)) => place_Squares.l0 k L i o) (fun i o => (o.map Prod.fst).Nodup ∧ (∀ s ∈ o.map Prod.fst, s.size ≤ 100) ∧ o.length ≤ i) (fun v => v.1.length ≤ 100)
    (fun i o hi ⟨o1, o2, o3⟩ => by
      have hI := IsLocator_any L[i]
      by_cases c : locOK L[i]
      · by_cases c2 : (L[i].size : Int) < 4
        · refine .inr ⟨([], 3), by simp, Ev.succ ?_⟩
          simp only [place_Squares.l0, rdE_get eS L i hi]
          exact Ev.pos (by omega) (Ev.pos (by omega) (Ev.pos (by omega) (Ev.bind hI (Ev.pos (by simpa using c) (Ev.pos c2 (Ev.now _))))))
        · refine .inl ⟨mput o (L[i].extract 0 4) true, ⟨?_, ?_, ?_⟩, fun v hv => Ev.succ ?_⟩
          · rw [mput_keys]
            split
            · exact o1
            · rename_i hn
              exact List.nodup_append.2 ⟨o1, by simp, fun a ha b hb => by rw [List.mem_singleton] at hb; rw [hb]; exact fun e => hn (e ▸ ha)⟩
          · rw [mput_keys]
            intro s hs
            split at hs
            · exact o2 s hs
            · rcases List.mem_append.1 hs with h | h
              · exact o2 s h
              · rw [List.mem_singleton] at h
                rw [h, ByteArray.size_extract]
                omega
          · unfold mput
            split
            · rw [List.length_set]; omega
            · simp; omega
          · simp only [place_Squares.l0, rdE_get eS L i hi, wrap_succ (show i ≤ 1000000000000000 by omega)]
            exact Ev.pos (by omega) (Ev.pos (by omega) (Ev.pos (by omega) (Ev.bind hI (Ev.pos (by simpa using c) (Ev.neg c2 (Ev.pos (by omega) hv))))))
      · refine .inr ⟨([], 3), by simp, Ev.succ ?_⟩
        simp only [place_Squares.l0, rdE_get eS L i hi]
        exact Ev.pos (by omega) (Ev.pos (by omega) (Ev.pos (by omega) (Ev.bind hI (Ev.neg (by simpa using c) (Ev.now _))))))
    (fun o ⟨o1, o2, o3⟩ => by
      have hS : slices_Sorted_string_of_maps_Keys_map_string_bool_string_bool_1.f o = some (sortB (o.map Prod.fst)) := by
        unfold slices_Sorted_string_of_maps_Keys_map_string_bool_string_bool_1.f
        rw [if_pos ⟨o1, fun s hs => Nat.le_trans (o2 s hs) (by decide), by omega⟩]
      refine ⟨(sortB (o.map Prod.fst), 0), by simp only [sortB_len, List.length_map]; omega, Ev.succ ?_⟩
      simp only [place_Squares.l0, maps_Keys_map_string_bool_string_bool.f, hS, Option.bind_some]
      exact Ev.neg (by omega) (Ev.now _))
    0 [] (by omega) ⟨by simp, by simp, by simp⟩
  refine ⟨v, ?_, hv1⟩
  unfold place_Squares.f
  exact Ev.neg (by omega) hv
/-- The middle of a right locator is a right site. -/
theorem middle_ex (s : ByteArray) (h : locOK s) : ∃ n e, Ev (fun k => place_middle.f k s) (n, e) ∧ Right n e := by
  obtain ⟨N, E, hw, he, hm⟩ := loc_of s h
  have ha := area_ev N E s.size hw hm
  rw [← he] at ha
  have hH : hOf s.size = 36000 ∨ hOf s.size = 3600 ∨ hOf s.size = 150 := by unfold hOf; split <;> (try split) <;> omega
  unfold inW at hw
  refine ⟨_, _, Ev.bind ha (Ev.now _), ?_⟩
  have e1 : wrap64 (N - N % hOf s.size - 324000 + hOf s.size - (N - N % hOf s.size - 324000)) = hOf s.size := by rw [wrap_id (by omega) (by omega)]; omega
  have e2 : wrap64 (E - E % (2 * hOf s.size) - 648000 + 2 * hOf s.size - (E - E % (2 * hOf s.size) - 648000)) = 2 * hOf s.size := by rw [wrap_id (by omega) (by omega)]; omega
  simp only [e1, e2]
  rw [tdiv_pos (by omega), tdiv_pos (by omega), wrap_id (e := hOf s.size / 2) (by omega) (by omega), wrap_id (e := 2 * hOf s.size / 2) (by omega) (by omega)]
  unfold Right
  rcases hH with q | q | q <;> rw [q] <;> rw [wrap_id (by omega) (by omega), wrap_id (by omega) (by omega)] <;> omega
theorem Farthest_ex (f : ByteArray) (hf : locOK f) (L : List ByteArray) (hL : L.length ≤ 100) :
    ∃ r, Ev (fun k => place_Farthest.f k f L) r ∧ ((0 < L.length ∧ ∀ s ∈ L, locOK s) → r.2.2 = 0) := by
  obtain ⟨fn, fe, hm, hr⟩ := middle_ex f hf
  have hI := IsLocator_any f
  unfold place_Farthest.f
  by_cases c0 : L.length = 0
  · exact ⟨(0, 0, 8), Ev.bind hI (Ev.pos (by simpa using hf) (Ev.pos (by omega) (Ev.now _))), fun h => by omega⟩
  · obtain ⟨v, hv1, hv⟩ := loop L (fun k i (s : Int × Int) => place_Farthest.l0 k f L s.1 s.2 i) (fun i _ => True) (fun v => (∀ s ∈ L, locOK s) → v.2.2 = 0)
      (fun i s hi _ => by
        have hJ := IsLocator_any L[i]
        by_cases c : locOK L[i]
        · obtain ⟨n, e, hm2, hr2⟩ := middle_ex L[i] c
          obtain ⟨d, hd, _⟩ := distances fn fe n e hr hr2
          have j : ∀ x y v, Ev (fun k => place_Farthest.l0 k f L x y ((i + 1 : Nat) : Int)) v → Ev (fun k => place_Farthest.j16 k f L (i : Int) x y) v := fun x y v hv => Ev.step (fun k => by simp only [place_Farthest.j16]; rw [wrap_succ (by omega)]) hv
          by_cases c2 : d > s.2
          · refine .inl ⟨((i : Int), d), trivial, fun v hv => Ev.succ ?_⟩
            simp only [place_Farthest.l0, rdE_get eS L i hi]
            exact Ev.pos (by omega) (Ev.pos (by omega) (Ev.pos (by omega) (Ev.bind hJ (Ev.pos (by simpa using c) (Ev.bind hm (Ev.bind hm2 (Ev.bind hd (Ev.pos c2 (j _ _ v hv)))))))))
          · refine .inl ⟨s, trivial, fun v hv => Ev.succ ?_⟩
            simp only [place_Farthest.l0, rdE_get eS L i hi]
            exact Ev.pos (by omega) (Ev.pos (by omega) (Ev.pos (by omega) (Ev.bind hJ (Ev.pos (by simpa using c) (Ev.bind hm (Ev.bind hm2 (Ev.bind hd (Ev.neg c2 (j _ _ v hv)))))))))
        · refine .inr ⟨(0, 0, 3), fun h => absurd (h _ (List.getElem_mem hi)) c, Ev.succ ?_⟩
          simp only [place_Farthest.l0, rdE_get eS L i hi]
          exact Ev.pos (by omega) (Ev.pos (by omega) (Ev.pos (by omega) (Ev.bind hJ (Ev.neg (by simpa using c) (Ev.now _))))))
      (fun s _ => ⟨(s.1, s.2, 0), fun _ => rfl, Ev.step (f := fun _ => some _) (fun k => by simp only [place_Farthest.l0]; rw [if_neg (by omega)]) (Ev.now _)⟩)
      0 (0, -1) (by omega) trivial
    exact ⟨v, Ev.bind hI (Ev.pos (by simpa using hf) (Ev.neg (by omega) (Ev.neg (by omega) hv))), fun h => hv1 h.2⟩
theorem PlacesStay (l : List Int) (hl : l.length ≤ 140737488351232) : ∃ k, pilekeep1_PlacesStay.f k l = some true := by
  have hR : Ev (fun k => (pilekeep1_ready.f k).bind fun r => Option.some r) true := Ev.bind ready_ev (Ev.now _)
  obtain ⟨x, s1, e1, hx, hxl, a1, b1⟩ := LocatorList_spec l 0 6 (by omega) (by omega) (by omega) hl
  obtain ⟨n, e, s2, e2, hr, a2, b2⟩ := RightSite_spec l s1 (by omega) (by omega) hl
  obtain ⟨sq, e3, hsq⟩ := Squares_ex x (by omega)
  have hf : locOK (⟨#[106, 110, 53, 56]⟩ : ByteArray) := by decide
  obtain ⟨far, e4, hfar⟩ := Farthest_ex _ hf x (by omega)
  obtain ⟨W, hW, h0, e5⟩ : ∃ W : List (Int × Int), W.length = 4 ∧ rdE e_II W 0 = (n, e) ∧ Ev (fun k => place_Way.f k n e n e 3) (W, 0) := by
    refine ⟨_, ?_, ?_, Way_spec n e n e 3 hr hr (by omega)⟩
    · simp
    · have := rdE_get e_II ((List.range (3 + 1)).map (wayP n e (n - n) (aroundV (e - e)) ((3 : Nat) : Int))) 0 (by simp)
      refine this.trans ?_
      simp only [List.getElem_map, List.getElem_range]
      exact wayP_first n e n e _ hr
  have e6 := EqualStr_same x (by omega)
  have e7 := LocatorsFault_any x (by omega) (fun s hs => (hx s hs).1)
  have hend : Ev (fun k => (place_Way.f k n e n e 3).bind fun r33 => (if r33.2 = 0 then (if (r33.1.length : Int) = 4 then (if 0 < (r33.1.length : Int) then ((place_Way.f k n e n e 3).bind fun r35 => (if r35.2 = 0 then (if 0 < (r35.1.length : Int) then (if (decide ((rdE e_II r35.1 0).1 = n) && (decide ((rdE e_II r35.1 0).2 = e) && true)) = true then ((slices_Equal_string_string.f k x x).bind fun r37 => (if r37 = true then ((pilekeep1_ready.f k ).bind fun r38 => Option.some r38) else Option.some false)) else Option.some false) else Option.none) else Option.some false)) else Option.none) else Option.some false) else Option.some false)) true := by
    refine Ev.bind e5 (Ev.pos rfl (Ev.pos ?_ (Ev.pos ?_ (Ev.bind e5 (Ev.pos rfl (Ev.pos ?_ (Ev.pos ?_ (Ev.bind e6 (Ev.pos rfl hR)))))))))
    · show (W.length : Int) = 4
      omega
    · show 0 < (W.length : Int)
      omega
    · show 0 < (W.length : Int)
      omega
    · simp only [h0]; simp
  have hj : Ev (fun k => pilekeep1_PlacesStay.j11 k x x n e) true := by
    refine Ev.succ ?_
    simp only [pilekeep1_PlacesStay.j11]
    refine Ev.bind e4 ?_
    by_cases c : far.2.2 = 0
    · exact Ev.pos c hend
    · refine Ev.neg c ?_
      by_cases c2 : (x.length : Int) > 0
      · refine Ev.pos c2 (Ev.bind e7 (Ev.neg ?_ hend))
        rw [if_neg (fun h => c (hfar ⟨by omega, h⟩))]
        decide
      · exact Ev.neg c2 hend
  refine (Ev.bind e1 (Ev.bind e1 (Ev.bind e2 (Ev.bind e3 ?_)))).ex
  by_cases c : sq.2 = 0
  · refine Ev.pos c ?_
    obtain ⟨v, rfl, hv⟩ := loop sq.1 (fun k i (o : List ByteArray) => pilekeep1_PlacesStay.l0 k x x (sq.1.length : Int) i n e o) (fun _ o => o.length = sq.1.length) (fun v => v = true)
      (fun i o hi ho => .inl ⟨o.set i (⟨#[115, 112, 111, 105, 108, 116]⟩ : ByteArray), by simpa using ho, fun v hv => Ev.succ (by
        simp only [pilekeep1_PlacesStay.l0, wrap_succ (show i ≤ 1000000000000000 by omega), Int.toNat_natCast]
        exact Ev.pos (by omega) (Ev.pos (by omega) (Ev.pos (by omega) hv)))⟩)
      (fun o _ => ⟨true, rfl, Ev.succ (by
        simp only [pilekeep1_PlacesStay.l0]
        exact Ev.neg (by omega) hj)⟩)
      0 sq.1 (by omega) rfl
    exact hv
  · exact Ev.neg c hj
end Go.EV.Pure
