/- The plain law: the Lean functions answer true for every list. -/
import Derived.Test.YtfbepmnpdnekdaaGreatDoorXTopCallsAreKeyed
import Derived.KernelRfl
import Derived.Lib.SlTrimSet
import Derived.Lib.SplitLaws
import Derived.Lib.Join
import Derived.Lib.IndexAny
import Derived.Lib.IndexMore
set_option linter.unusedVariables false
set_option linter.unusedSimpArgs false
/-! Plain laws that all statements use: numbers that don't wrap, functions with fuel, loops over lists, the stream's draws. -/
namespace Go.EV.Pure
open Go Go.EV Go.RowKit
theorem wrap_id {e : Int} (h1 : -9223372036854775808 ≤ e) (h2 : e ≤ 9223372036854775807) : wrap64 e = e := by
  unfold wrap64
  omega
theorem tmod_pos {a n : Int} (h : 0 ≤ a) : a.tmod n = a % n := Int.tmod_eq_emod_of_nonneg h
theorem mx_eq (a b : Int) : mx a b = if a < b then b else a := rfl
theorem mn_eq (a b : Int) : mn a b = if b < a then b else a := rfl
theorem rd_get (l : List Int) (i : Nat) (h : i < l.length) : rd l (i : Int) = l[i] := by
  simp [rd, List.getD, List.getElem?_eq_getElem h]
theorem rdE_get {α : Type} (E : Enc α) (l : List α) (i : Nat) (h : i < l.length) : rdE E l (i : Int) = l[i] := by
  simp [rdE, List.getD, List.getElem?_eq_getElem h]
theorem rd_mem (l : List Int) (i : Int) (h0 : 0 ≤ i) (h1 : i < l.length) : rd l i ∈ l := by
  have h : i.toNat < l.length := by omega
  have : rd l i = l[i.toNat] := by simp [rd, List.getD, List.getElem?_eq_getElem h]
  rw [this]
  exact List.getElem_mem h
theorem rdE_mem {α : Type} (E : Enc α) (l : List α) (i : Int) (h0 : 0 ≤ i) (h1 : i < l.length) : rdE E l i ∈ l := by
  have h : i.toNat < l.length := by omega
  have : rdE E l i = l[i.toNat] := by simp [rdE, List.getD, List.getElem?_eq_getElem h]
  rw [this]
  exact List.getElem_mem h
theorem wrap_succ {i : Nat} (h : i ≤ 1000000000000000) : wrap64 ((i : Int) + 1) = ((i + 1 : Nat) : Int) := by rw [wrap_id (by omega) (by omega)]; omega

/-- From some fuel on the function answers v. -/
def Ev {α : Type} (f : Nat → Option α) (v : α) : Prop := ∃ K, ∀ k, K ≤ k → f k = some v
section
variable {α β : Type}
theorem Ev.now (v : α) : Ev (fun _ => some v) v := ⟨0, fun _ _ => rfl⟩
theorem Ev.of {f : Nat → Option α} {v : α} (h : ∀ k, f k = some v) : Ev f v := ⟨0, fun k _ => h k⟩
theorem Ev.from {f : Nat → Option α} {v : α} (n : Nat) (h : ∀ k, f (k + n) = some v) : Ev f v := ⟨n, fun k hk => by
  obtain ⟨m, rfl⟩ : ∃ m, k = m + n := ⟨k - n, by omega⟩
  exact h m⟩
theorem Ev.bind {f : Nat → Option α} {a : α} {g : Nat → α → Option β} {v : β} (h : Ev f a) (h2 : Ev (fun k => g k a) v) : Ev (fun k => (f k).bind (g k)) v := by
  obtain ⟨K, h⟩ := h
  obtain ⟨K2, h2⟩ := h2
  exact ⟨max K K2, fun k hk => by show (f k).bind (g k) = some v; rw [h k (by omega)]; exact h2 k (by omega)⟩
theorem Ev.step {g f : Nat → Option α} {v : α} (h : ∀ k, g (k + 1) = f k) (h2 : Ev f v) : Ev g v := by
  obtain ⟨K, h2⟩ := h2
  exact ⟨K + 1, fun k hk => by
    obtain ⟨m, rfl⟩ : ∃ m, k = m + 1 := ⟨k - 1, by omega⟩
    rw [h m]; exact h2 m (by omega)⟩
theorem Ev.succ {g : Nat → Option α} {v : α} (h : Ev (fun k => g (k + 1)) v) : Ev g v := Ev.step (fun _ => rfl) h
theorem Ev.congr {f g : Nat → Option α} {v : α} (h : ∀ k, f k = g k) (h2 : Ev g v) : Ev f v := by
  obtain ⟨K, h2⟩ := h2
  exact ⟨K, fun k hk => (h k).trans (h2 k hk)⟩
theorem Ev.ex {f : Nat → Option α} {v : α} (h : Ev f v) : ∃ k, f k = some v := let ⟨K, h⟩ := h; ⟨K, h K (Nat.le_refl _)⟩
theorem Ev.uniq {f : Nat → Option α} {v w : α} (h : Ev f v) (h2 : Ev f w) : v = w := by
  obtain ⟨K, h⟩ := h
  obtain ⟨K2, h2⟩ := h2
  have a := h (max K K2) (by omega)
  rw [h2 (max K K2) (by omega)] at a
  exact (Option.some.inj a).symm
theorem Ev.ite {p : Prop} [Decidable p] {f g : Nat → Option α} {v : α} (h1 : p → Ev f v) (h2 : ¬ p → Ev g v) : Ev (fun k => if p then f k else g k) v := by
  by_cases c : p
  · simp only [if_pos c]; exact h1 c
  · simp only [if_neg c]; exact h2 c
theorem Ev.pos {p : Prop} [Decidable p] {f g : Nat → Option α} {v : α} (c : p) (h1 : Ev f v) : Ev (fun k => if p then f k else g k) v := by simp only [if_pos c]; exact h1
theorem Ev.neg {p : Prop} [Decidable p] {f g : Nat → Option α} {v : α} (c : ¬ p) (h1 : Ev g v) : Ev (fun k => if p then f k else g k) v := by simp only [if_neg c]; exact h1

/-- A loop over a list by its index: what holds of its state carries over each round, or the round is the last one. -/
theorem loop {σ ρ : Type} (l : List α) (F : Nat → Int → σ → Option ρ) (I : Nat → σ → Prop) (post : ρ → Prop)
    (hstep : ∀ (i : Nat) (s : σ), i < l.length → I i s → (∃ s', I (i + 1) s' ∧ ∀ v, Ev (fun k => F k ((i + 1 : Nat) : Int) s') v → Ev (fun k => F k (i : Int) s) v) ∨ ∃ v, post v ∧ Ev (fun k => F k (i : Int) s) v)
    (hend : ∀ s, I l.length s → ∃ v, post v ∧ Ev (fun k => F k (l.length : Int) s) v) :
    ∀ (i : Nat) (s : σ), i ≤ l.length → I i s → ∃ v, post v ∧ Ev (fun k => F k (i : Int) s) v := by
  intro i
  generalize hd : l.length - i = d
  induction d generalizing i with
  | zero =>
    intro s hi hI
    obtain rfl : i = l.length := by omega
    exact hend s hI
  | succ d ih =>
    intro s hi hI
    rcases hstep i s (by omega) hI with ⟨s', h1, h2⟩ | h
    · obtain ⟨v, h3, h4⟩ := ih (i + 1) (by omega) s' (by omega) h1
      exact ⟨v, h3, h2 v h4⟩
    · exact h
end
end Go.EV.Pure
namespace Go.EV.Pure
open Go Go.EV Go.RowKit
set_option linter.unusedSimpArgs false
/-! Strings as lists of bytes. -/
def eB : ByteArray := ⟨#[]⟩
def mk (p : List UInt8) : ByteArray := ⟨p.toArray⟩
theorem mk_data (p : List UInt8) : (mk p).data.toList = p := by simp [mk]
theorem mk_size (p : List UInt8) : (mk p).size = p.length := by simp [mk, ByteArray.size]
theorem mk_of (s : ByteArray) : s = mk s.data.toList := by
  apply ByteArray.ext
  simp [mk]
theorem mk_inj {p q : List UInt8} : mk p = mk q ↔ p = q := ⟨fun h => by have := congrArg (fun s => s.data.toList) h; simpa [mk] using this, fun h => h ▸ rfl⟩
theorem mk_append (p q : List UInt8) : mk p ++ mk q = mk (p ++ q) := by
  apply ByteArray.ext
  simp [mk]
theorem mk_extract (p : List UInt8) (i j : Nat) : (mk p).extract i j = mk ((p.take j).drop i) := by
  apply ByteArray.ext
  simp only [mk, ByteArray.data_extract]
  apply Array.ext'
  simp [List.extract_eq_take_drop, List.drop_take]
theorem mk_bt (p : List UInt8) (i : Nat) (h : i < p.length) : bt (mk p) (i : Int) = (p[i].toNat : Int) := by
  unfold bt
  have hs : (Int.toNat (i : Int)) < (mk p).size := by simpa [mk_size] using h
  rw [dif_pos hs]
  have : (mk p)[Int.toNat (i : Int)]'hs = p[i] := by
    show (p.toArray)[Int.toNat (i : Int)]'_ = _
    simp only [Int.toNat_natCast, List.getElem_toArray]
    rfl
  rw [this]
  rfl
theorem mk_ascii (p : List UInt8) : asciiT (mk p) = p.all fun b => decide (b.toNat < 128) := by unfold asciiT; rw [mk_data]
theorem trimS_nil (l cs : List UInt8) : Lib.trimS l cs = [] ↔ ∀ b ∈ l, cs.contains b = true := by
  unfold Lib.trimS Lib.trimLeftS Lib.trimRightS
  have key0 : ∀ r : List UInt8, r.dropWhile (cs.contains ·) = [] ↔ ∀ x ∈ r, cs.contains x = true := by
    intro r
    induction r with
    | nil => simp
    | cons a r ih =>
      by_cases c : cs.contains a = true
      · rw [List.dropWhile_cons_of_pos c, ih]
        constructor
        · intro h x hx
          rcases List.mem_cons.1 hx with rfl | hx
          · exact c
          · exact h x hx
        · intro h x hx
          exact h x (by simp [hx])
      · rw [List.dropWhile_cons_of_neg c]
        constructor
        · intro h; cases h
        · intro h; exact absurd (h a (by simp)) c
  rw [key0]
  constructor
  · intro h b hb
    have key : ∀ r : List UInt8, (∀ x ∈ (r.dropWhile (cs.contains ·)), cs.contains x = true) → ∀ x ∈ r, cs.contains x = true := by
      intro r
      induction r with
      | nil => intro _ x hx; cases hx
      | cons a r ih =>
        intro h x hx
        by_cases c : cs.contains a = true
        · rw [List.dropWhile_cons_of_pos c] at h
          rcases List.mem_cons.1 hx with rfl | hx
          · exact c
          · exact ih h x hx
        · rw [List.dropWhile_cons_of_neg c] at h
          exact h x hx
    exact key l.reverse (fun x hx => h x (by simpa using hx)) b (by simpa using hb)
  · intro h x hx
    have hx : x ∈ l.reverse.dropWhile (cs.contains ·) := by simpa using hx
    exact h x (by simpa using (List.dropWhile_sublist _).subset hx)
theorem all_bytes {P : UInt8 → Prop} (h : ∀ n : Fin 256, P (UInt8.ofNat n.val)) (b : UInt8) : P b := by
  have := h ⟨b.toNat, UInt8.toNat_lt b⟩
  simpa using this
theorem ascii_sub {p q : List UInt8} (h : asciiT (mk p) = true) (hq : ∀ b ∈ q, b ∈ p) : asciiT (mk q) = true := by
  rw [mk_ascii, List.all_eq_true] at h ⊢
  exact fun b hb => h b (hq b hb)
end Go.EV.Pure
namespace Go.EV.Pure
open Go Go.EV Go.RowKit
theorem Below_j (x : Int) : Ev (fun k => pilemake_Below.j6 k x) x := Ev.from 1 fun k => rfl
theorem Below_spec (x n : Int) (hn : n ≤ 9223372036854775807) : ∃ r, Ev (fun k => pilemake_Below.f k x n) r ∧ 0 ≤ r ∧ (1 ≤ n → r < n) ∧ (n < 1 → r = 0) := by
  unfold pilemake_Below.f
  by_cases h : n < 1
  · simp only [if_pos h]
    exact ⟨0, Ev.now _, by omega, by omega, fun _ => rfl⟩
  · simp only [if_neg h, if_neg (show ¬ n = 0 by omega)]
    have hm := Int.natAbs_tmod x n
    have hm2 := Nat.mod_lt x.natAbs (show n.natAbs > 0 by omega)
    have h1 : x.tmod n < n := by omega
    have h2 : -n < x.tmod n := by omega
    by_cases h3 : x.tmod n < 0
    · simp only [if_pos h3]
      refine ⟨_, Below_j _, ?_, ?_, ?_⟩ <;> rw [wrap_id (by omega) (by omega)] <;> omega
    · simp only [if_neg h3]
      exact ⟨_, Below_j _, by omega, by omega, by omega⟩
theorem Next_spec (l : List Int) (s n : Int) (h0 : 0 ≤ s) (h1 : s ≤ 4611686018427387904) (hn : n ≤ 9223372036854775807) (hl : l.length ≤ 140737488351232) :
    ∃ r, Ev (fun k => pilemake_Stream_Next.f k l s n) (r, l, s + 1) ∧ 0 ≤ r ∧ (1 ≤ n → r < n) := by
  unfold pilemake_Stream_Next.f
  have hs : wrap64 (s + 1) = s + 1 := wrap_id (by omega) (by omega)
  have hs2 : wrap64 (s + 1 - 1) = s := by rw [wrap_id (by omega) (by omega)]; omega
  simp only [hs, hs2]
  by_cases h : (l.length : Int) = 0
  · simp only [if_pos h]
    obtain ⟨r, hr, r0, r1, _⟩ := Below_spec (wrap64 ((s + 1) * 7919)) n hn
    exact ⟨r, Ev.bind hr (Ev.now _), r0, r1⟩
  · have e : Int.tmod s (l.length : Int) = s % (l.length : Int) := Int.tmod_eq_emod_of_nonneg h0
    have m0 : 0 ≤ s % (l.length : Int) := Int.emod_nonneg _ h
    have m1 : s % (l.length : Int) < (l.length : Int) := Int.emod_lt_of_pos _ (by omega)
    simp only [if_neg h, e, if_pos m0, if_pos m1]
    obtain ⟨a, ha, _⟩ := Below_spec (rd l (s % (l.length : Int))) 1073741824 (by omega)
    obtain ⟨r, hr, r0, r1, _⟩ := Below_spec (wrap64 (a + wrap64 (wrap64 (Int.tdiv s (l.length : Int)) * wrap64 (7919 + s % (l.length : Int))))) n hn
    exact ⟨r, Ev.bind ha (Ev.bind hr (Ev.now _)), r0, r1⟩
theorem Pick_spec (l : List Int) (s : Int) (m : List Int) (h0 : 0 ≤ s) (h1 : s ≤ 4611686018427387904) (hl : l.length ≤ 140737488351232) (hm : 1 ≤ m.length) (hm2 : m.length ≤ 1000) :
    ∃ r, Ev (fun k => pilemake_Stream_Pick.f k l s m) (r, l, s + 1) ∧ r ∈ m := by
  obtain ⟨r, hr, r0, r1⟩ := Next_spec l s (m.length : Int) h0 h1 (by omega) hl
  have r2 := r1 (by omega)
  exact ⟨rd m r, Ev.bind hr (Ev.pos r0 (Ev.pos r2 (Ev.now _))), rd_mem m r r0 r2⟩
theorem Flip_spec (l : List Int) (s n : Int) (h0 : 0 ≤ s) (h1 : s ≤ 4611686018427387904) (hn : n ≤ 9223372036854775807) (hl : l.length ≤ 140737488351232) :
    ∃ b, Ev (fun k => pilemake_Stream_Flip.f k l s n) (b, l, s + 1) := by
  obtain ⟨r, hr, _⟩ := Next_spec l s n h0 h1 hn hl
  exact ⟨decide (r = 0), Ev.bind hr (Ev.now _)⟩
end Go.EV.Pure
namespace Go.EV.Pure
open Go Go.EV Go.RowKit
set_option linter.unusedSimpArgs false
set_option maxRecDepth 100000
/-! Strings that the stream draws: of ASCII, and short. -/
def GS (n : Nat) (s : ByteArray) : Prop := asciiT s = true ∧ s.size ≤ n
theorem ascii_app {a b : ByteArray} (ha : asciiT a = true) (hb : asciiT b = true) : asciiT (a ++ b) = true := by
  unfold asciiT at ha hb ⊢
  simp only [ByteArray.data_append, Array.toList_append, List.all_append, ha, hb, Bool.and_self]
theorem ascii_ext {a : ByteArray} (ha : asciiT a = true) (i j : Nat) : asciiT (a.extract i j) = true := by
  rw [mk_of a] at ha ⊢
  rw [mk_extract]
  exact ascii_sub ha fun b hb => List.mem_of_mem_take (List.mem_of_mem_drop hb)
theorem enc_ascii : ∀ b : UInt8, b.toNat < 128 → Utf8.encode (IntKind.i32.wrap (b.toNat : Int)) = mk [b] := all_bytes (by decide +kernel)
theorem GS.app {n m : Nat} {a b : ByteArray} (ha : GS n a) (hb : GS m b) : GS (n + m) (a ++ b) := ⟨ascii_app ha.1 hb.1, by rw [ByteArray.size_append]; have := ha.2; have := hb.2; omega⟩
theorem GS.mono {n m : Nat} {a : ByteArray} (ha : GS n a) (h : n ≤ m) : GS m a := ⟨ha.1, Nat.le_trans ha.2 h⟩
theorem Some_spec (l : List Int) (s : Int) (m : List ByteArray) (h0 : 0 ≤ s) (h1 : s ≤ 4611686018427387904) (hl : l.length ≤ 140737488351232) (hm : 1 ≤ m.length) (hm2 : m.length ≤ 1000) :
    ∃ r, Ev (fun k => pilemake_Stream_Some.f k l s m) (r, l, s + 1) ∧ r ∈ m := by
  obtain ⟨r, hr, r0, r1⟩ := Next_spec l s (m.length : Int) h0 h1 (by omega) hl
  have r2 := r1 (by omega)
  exact ⟨rdE eS m r, Ev.bind hr (Ev.pos r0 (Ev.pos r2 (Ev.now _))), rdE_mem eS m r r0 r2⟩
theorem Some_GS (n : Nat) (l : List Int) (s : Int) (m : List ByteArray) (h0 : 0 ≤ s) (h1 : s ≤ 4611686018427387904) (hl : l.length ≤ 140737488351232) (hm : 1 ≤ m.length) (hm2 : m.length ≤ 1000) (hg : ∀ r ∈ m, asciiT r = true ∧ r.size ≤ n) :
    ∃ r, Ev (fun k => pilemake_Stream_Some.f k l s m) (r, l, s + 1) ∧ GS n r := by
  obtain ⟨r, h, hr⟩ := Some_spec l s m h0 h1 hl hm hm2
  exact ⟨r, h, hg r hr⟩
theorem ext_le (x : ByteArray) (a b : Nat) : (x.extract a b).size ≤ x.size := by rw [ByteArray.size_extract]; omega
theorem Changed_fin (l : List Int) (s o : Int) (i X : Nat) (hi : i < X) (hX : X ≤ 1000000000) (A M Y Z : ByteArray) (hA : A.size ≤ 1000000000) (hM : M.size ≤ 1) (hY : Y.size ≤ 1000000000) (hZ : Z.size ≤ 1000000000) :
    ∃ r, (r = A ++ M ++ Y ∨ r = A ++ M ++ Z ∨ r = A ++ Y) ∧ Ev (fun k => (if o = 0 then (if 0 ≤ (i : Int) then (if (i : Int) ≤ (X : Int) then (if A.size + M.size ≤ 9223372036854775807 then (if 0 ≤ ((i + 1 : Nat) : Int) then (if ((i + 1 : Nat) : Int) ≤ (X : Int) then (if (A ++ M).size + Y.size ≤ 9223372036854775807 then Option.some ((A ++ M) ++ Y, l, s) else Option.none) else Option.none) else Option.none) else Option.none) else Option.none) else Option.none) else (if o = 1 then (if 0 ≤ (i : Int) then (if (i : Int) ≤ (X : Int) then (if A.size + M.size ≤ 9223372036854775807 then (if 0 ≤ (i : Int) then (if (i : Int) ≤ (X : Int) then (if (A ++ M).size + Z.size ≤ 9223372036854775807 then Option.some ((A ++ M) ++ Z, l, s) else Option.none) else Option.none) else Option.none) else Option.none) else Option.none) else Option.none) else (if 0 ≤ (i : Int) then (if (i : Int) ≤ (X : Int) then (if 0 ≤ ((i + 1 : Nat) : Int) then (if ((i + 1 : Nat) : Int) ≤ (X : Int) then (if A.size + Y.size ≤ 9223372036854775807 then Option.some (A ++ Y, l, s) else Option.none) else Option.none) else Option.none) else Option.none) else Option.none)))) (r, l, s) := by
  have e : (A ++ M).size = A.size + M.size := ByteArray.size_append
  rw [e]
  generalize A.size = a at hA
  generalize M.size = m at hM
  generalize Y.size = y at hY
  generalize Z.size = z at hZ
  clear e
  by_cases c1 : o = 0
  · exact ⟨_, .inl rfl, Ev.pos c1 (Ev.pos (by omega) (Ev.pos (by omega) (Ev.pos (by omega) (Ev.pos (by omega) (Ev.pos (by omega) (Ev.pos (by omega) (Ev.now _)))))))⟩
  · by_cases c2 : o = 1
    · exact ⟨_, .inr (.inl rfl), Ev.neg c1 (Ev.pos c2 (Ev.pos (by omega) (Ev.pos (by omega) (Ev.pos (by omega) (Ev.pos (by omega) (Ev.pos (by omega) (Ev.pos (by omega) (Ev.now _))))))))⟩
    · exact ⟨_, .inr (.inr rfl), Ev.neg c1 (Ev.neg c2 (Ev.pos (by omega) (Ev.pos (by omega) (Ev.pos (by omega) (Ev.pos (by omega) (Ev.pos (by omega) (Ev.now _)))))))⟩
theorem size_pos (y : ByteArray) (hy : ¬ y = (⟨#[]⟩ : ByteArray)) : 1 ≤ y.size := by
  rcases Nat.eq_zero_or_pos y.size with h | h
  · refine absurd ?_ hy
    apply ByteArray.ext
    apply Array.eq_empty_of_size_eq_zero
    exact h
  · exact h
theorem bt_enc (w : ByteArray) (hw : asciiT w = true) (d : Nat) (hd : d < w.size) : ∃ b : UInt8, Utf8.encode (IntKind.i32.wrap (bt w (d : Int))) = mk [b] ∧ asciiT (mk [b]) = true := by
  have hd : d < w.data.toList.length := by rw [Array.length_toList]; exact hd
  have hb : bt w (d : Int) = ((w.data.toList[d]).toNat : Int) := by
    conv => lhs; rw [mk_of w]
    rw [mk_bt _ d hd]
  have ha : (w.data.toList[d]).toNat < 128 := by
    unfold asciiT at hw
    rw [List.all_eq_true] at hw
    simpa using hw _ (List.getElem_mem hd)
  exact ⟨w.data.toList[d], by rw [hb]; exact enc_ascii _ ha, by rw [mk_ascii]; simpa using ha⟩
theorem Changed_GS (n : Nat) (l : List Int) (s : Int) (x w : ByteArray) (h0 : 0 ≤ s) (h1 : s ≤ 4611686018427387000) (hl : l.length ≤ 140737488351232) (hx : GS n x) (hn : n ≤ 100000000) (hw : GS 1000 w) (hw0 : ¬ w = (⟨#[]⟩ : ByteArray)) :
    ∃ r s', Ev (fun k => pilemake_Stream_Changed.f k l s x w) (r, l, s') ∧ (GS (n + 1 + n) r ∨ r = w) ∧ s ≤ s' ∧ s' ≤ s + 3 := by
  unfold pilemake_Stream_Changed.f
  by_cases c : x = (⟨#[]⟩ : ByteArray)
  · exact ⟨w, s, Ev.pos c (Ev.now _), .inr rfl, by omega, by omega⟩
  have sx := size_pos x c
  have sw := size_pos w hw0
  have hx2 := hx.2
  have hw2 := hw.2
  obtain ⟨i, ei, i0, i1⟩ := Next_spec l s (x.size : Int) h0 (by omega) (by omega) hl
  obtain ⟨d, ed, d0, d1⟩ := Next_spec l (s + 1) (w.size : Int) (by omega) (by omega) (by omega) hl
  obtain ⟨o, eo, o0, o1⟩ := Next_spec l (s + 1 + 1) 3 (by omega) (by omega) (by omega) hl
  have i2 := i1 (by omega)
  have d2 := d1 (by omega)
  clear i1 d1 o1
  obtain ⟨i, rfl⟩ : ∃ n : Nat, i = n := ⟨i.toNat, by omega⟩
  obtain ⟨d, rfl⟩ : ∃ n : Nat, d = n := ⟨d.toNat, by omega⟩
  obtain ⟨b, hb, ha⟩ := bt_enc w hw.1 d (by omega)
  have g1 : GS 1 (mk [b]) := ⟨ha, by rw [mk_size]; exact Nat.le_refl _⟩
  have w1 : wrap64 ((i : Int) + 1) = ((i + 1 : Nat) : Int) := wrap_succ (by omega)
  have gx : ∀ a b, GS n (x.extract a b) := fun a b => ⟨ascii_ext hx.1 a b, Nat.le_trans (ext_le x a b) hx.2⟩
  have zx : ∀ a b, (x.extract a b).size ≤ 1000000000 := fun a b => Nat.le_trans (ext_le x a b) (by omega)
  obtain ⟨r, h2, h3⟩ := Changed_fin l (s + 1 + 1 + 1) o i x.size (by omega) (by omega) (x.extract 0 i) (mk [b]) (x.extract (i + 1) x.size) (x.extract i x.size) (zx _ _) g1.2 (zx _ _) (zx _ _)
  refine ⟨r, s + 1 + 1 + 1, Ev.neg c (Ev.neg hw0 (Ev.bind ei (Ev.bind ed ?_))), .inl ?_, by omega, by omega⟩
  · refine Ev.pos d0 (Ev.pos d2 (Ev.bind eo ?_))
    simp only [hb, w1, Int.toNat_natCast]
    exact h3
  · rcases h2 with rfl | rfl | rfl
    · exact ((gx _ _).app g1).app (gx _ _)
    · exact ((gx _ _).app g1).app (gx _ _)
    · exact ((gx _ _).app (gx _ _)).mono (by omega)
end Go.EV.Pure
namespace Go.EV.Pure
open Go Go.EV Go.RowKit
end Go.EV.Pure
namespace Go.EV.Pure
open Go Go.EV Go.RowKit
set_option linter.unusedSimpArgs false
set_option maxRecDepth 100000
/-! The table of codes, words, and what can be said. -/
theorem index_hit (p rest : List UInt8) (h : (32 : UInt8) ∉ p) : Lib.index (p ++ 32 :: rest) [32] = (p.length : Int) := by
  induction p with
  | nil => simp [Lib.index, List.isPrefixOf]
  | cons b p ih =>
    have ih := ih (fun h' => h (by simp [h']))
    have hb : ¬ (32 : UInt8) = b := fun e => h (by simp [e])
    simp only [List.cons_append, Lib.index, List.isPrefixOf, beq_iff_eq, ih]
    have : ((32 : UInt8) == b) = false := by simpa using hb
    rw [this]
    simp <;> omega
theorem index_miss (p : List UInt8) (h : (32 : UInt8) ∉ p) : Lib.index p [32] = -1 := by
  induction p with
  | nil => simp [Lib.index]
  | cons b p ih =>
    have ih := ih (fun h' => h (by simp [h']))
    have hb : ¬ (32 : UInt8) = b := fun e => h (by simp [e])
    have : ((32 : UInt8) == b) = false := by simpa using hb
    simp only [Lib.index, List.isPrefixOf, ih, this]
    simp
def joinSp : List (List UInt8) → List UInt8
  | [] => []
  | [p] => p
  | p :: q :: r => p ++ 32 :: joinSp (q :: r)
theorem ext_head (p rest : List UInt8) : (mk (p ++ 32 :: rest)).extract 0 p.length = mk p := by
  rw [mk_extract]
  simp
theorem ext_tail (p rest : List UInt8) : (mk (p ++ 32 :: rest)).extract (p.length + 1) (mk (p ++ 32 :: rest)).size = mk rest := by
  rw [mk_extract, mk_size, List.take_length]
  congr 1
  rw [List.drop_append, List.drop_eq_nil_of_le (by omega), List.nil_append, Nat.add_sub_cancel_left]
  rfl
theorem split_all (sp : ByteArray) (hsp : sp = mk [32]) : ∀ (q : List UInt8) (r : List (List UInt8)), (∀ p ∈ q :: r, (32 : UInt8) ∉ p) → Lib.countB (mk (joinSp (q :: r))) sp = r.length ∧ Lib.splitB sp 0 r.length (mk (joinSp (q :: r))) = (q :: r).map mk
  | q, [], h => by
    subst hsp
    refine ⟨?_, rfl⟩
    exact Lib.countB_miss _ _ (index_miss q (h q (by simp)))
  | q, p :: r, h => by
    obtain ⟨h1, h2⟩ := split_all sp hsp p r (fun x hx => h x (by simp [List.mem_cons.1 hx]))
    subst hsp
    have hi : Lib.indexB (mk (joinSp (q :: p :: r))) (mk [32]) = ((q.length : Nat) : Int) := index_hit q _ (h q (by simp))
    have hs : (mk [32]).size = 1 := rfl
    have hj : joinSp (q :: p :: r) = q ++ 32 :: joinSp (p :: r) := rfl
    constructor
    · rw [Lib.countB_hit _ _ q.length (by rw [hs]; omega) hi, hs, hj, ext_tail, h1]
      simp
      omega
    · rw [List.length_cons, Lib.splitB_hit _ _ _ _ q.length hi, hs, hj, Nat.add_zero, ext_head, ext_tail, h2]
      rfl
/-- A text's words. -/
def wordsOf : List UInt8 → List (List UInt8)
  | [] => [[]]
  | b :: r => if b = 32 then [] :: wordsOf r else match wordsOf r with
    | [] => [[b]]
    | w :: q => (b :: w) :: q
theorem wordsOf_ne (p : List UInt8) : ∃ w q, wordsOf p = w :: q := by
  cases p with
  | nil => exact ⟨_, _, rfl⟩
  | cons b r =>
    unfold wordsOf
    split
    · exact ⟨_, _, rfl⟩
    · split
      · exact ⟨_, _, rfl⟩
      · exact ⟨_, _, rfl⟩
theorem joinSp_words : ∀ p : List UInt8, joinSp (wordsOf p) = p
  | [] => rfl
  | b :: r => by
    have ih := joinSp_words r
    obtain ⟨w, q, hw⟩ := wordsOf_ne r
    unfold wordsOf
    by_cases c : b = 32
    · rw [if_pos c, hw]
      rw [hw] at ih
      show [] ++ 32 :: joinSp (w :: q) = _
      rw [ih, c]; rfl
    · rw [if_neg c, hw]
      rw [hw] at ih
      cases q with
      | nil => show b :: w = _; rw [← ih]; rfl
      | cons x y => show (b :: w) ++ 32 :: joinSp (x :: y) = _; rw [← ih]; rfl
theorem words_no32 : ∀ (p : List UInt8), ∀ w ∈ wordsOf p, (32 : UInt8) ∉ w
  | [] => fun w hw => by
    have : w = [] := by simpa [wordsOf] using hw
    rw [this]; simp
  | b :: r => fun w hw => by
    have ih := words_no32 r
    obtain ⟨v, q, hv⟩ := wordsOf_ne r
    unfold wordsOf at hw
    by_cases c : b = 32
    · rw [if_pos c] at hw
      rcases List.mem_cons.1 hw with rfl | hw
      · simp
      · exact ih w hw
    · rw [if_neg c, hv] at hw
      rw [hv] at ih
      rcases List.mem_cons.1 hw with rfl | hw
      · intro hm
        rcases List.mem_cons.1 hm with h | h
        · exact c h.symm
        · exact ih v (by simp) h
      · exact ih w (by simp [hw])
theorem words_bytes : ∀ (p : List UInt8) (b : UInt8), b ≠ 32 → (b ∈ p ↔ ∃ w ∈ wordsOf p, b ∈ w)
  | [], b, hb => by simp [wordsOf]
  | a :: r, b, hb => by
    have ih := words_bytes r b hb
    obtain ⟨v, q, hv⟩ := wordsOf_ne r
    unfold wordsOf
    by_cases c : a = 32
    · rw [if_pos c]
      constructor
      · intro h
        rcases List.mem_cons.1 h with rfl | h
        · exact absurd c hb
        · obtain ⟨w, h1, h2⟩ := ih.1 h
          exact ⟨w, by simp [h1], h2⟩
      · rintro ⟨w, h1, h2⟩
        rcases List.mem_cons.1 h1 with rfl | h1
        · cases h2
        · exact List.mem_cons_of_mem _ (ih.2 ⟨w, h1, h2⟩)
    · rw [if_neg c, hv]
      rw [hv] at ih
      constructor
      · intro h
        rcases List.mem_cons.1 h with rfl | h
        · exact ⟨b :: v, by simp, by simp⟩
        · obtain ⟨w, h1, h2⟩ := ih.1 h
          rcases List.mem_cons.1 h1 with rfl | h1
          · exact ⟨a :: w, by simp, by simp [h2]⟩
          · exact ⟨w, by simp [h1], h2⟩
      · rintro ⟨w, h1, h2⟩
        rcases List.mem_cons.1 h1 with rfl | h1
        · rcases List.mem_cons.1 h2 with rfl | h2
          · simp
          · exact List.mem_cons_of_mem _ (ih.2 ⟨v, by simp, h2⟩)
        · exact List.mem_cons_of_mem _ (ih.2 ⟨w, by simp [h1], h2⟩)
theorem words_sum : ∀ p : List UInt8, ((wordsOf p).map fun w => w.length + 1).sum = p.length + 1
  | [] => rfl
  | b :: r => by
    have ih := words_sum r
    obtain ⟨v, q, hv⟩ := wordsOf_ne r
    unfold wordsOf
    by_cases c : b = 32
    · rw [if_pos c]
      simp only [List.map_cons, List.sum_cons, ih, List.length_cons, List.length_nil]
      omega
    · rw [if_neg c, hv]
      rw [hv] at ih
      simp only [List.map_cons, List.sum_cons, List.length_cons] at ih ⊢
      omega
theorem split_ev (p : List UInt8) (hp : p.length ≤ 1000000) : strings_Split.f (mk p) (⟨#[32]⟩ : ByteArray) = some ((wordsOf p).map mk) := by
  obtain ⟨w, q, hw⟩ := wordsOf_ne p
  have hj := joinSp_words p
  have hn := words_no32 p
  rw [hw] at hj hn ⊢
  obtain ⟨h1, h2⟩ := split_all (⟨#[32]⟩ : ByteArray) rfl w q hn
  rw [hj] at h1 h2
  unfold strings_Split.f
  rw [h1, h2, if_pos ⟨by rw [mk_size]; omega, by decide⟩]
def signsL : List UInt8 := [97, 98, 99, 100, 101, 102, 103, 104, 105, 106, 107, 108, 109, 110, 111, 112, 113, 114, 115, 116, 117, 118, 119, 120, 121, 122, 48, 49, 50, 51, 52, 53, 54, 55, 56, 57, 47, 63, 61, 43]
def codesL : List (List UInt8) := [[46, 45], [45, 46, 46, 46], [45, 46, 45, 46], [45, 46, 46], [46], [46, 46, 45, 46], [45, 45, 46], [46, 46, 46, 46], [46, 46], [46, 45, 45, 45], [45, 46, 45], [46, 45, 46, 46], [45, 45], [45, 46], [45, 45, 45], [46, 45, 45, 46], [45, 45, 46, 45], [46, 45, 46], [46, 46, 46], [45], [46, 46, 45], [46, 46, 46, 45], [46, 45, 45], [45, 46, 46, 45], [45, 46, 45, 45], [45, 45, 46, 46], [45, 45, 45, 45, 45], [46, 45, 45, 45, 45], [46, 46, 45, 45, 45], [46, 46, 46, 45, 45], [46, 46, 46, 46, 45], [46, 46, 46, 46, 46], [45, 46, 46, 46, 46], [45, 45, 46, 46, 46], [45, 45, 45, 46, 46], [45, 45, 45, 45, 46], [45, 46, 46, 45, 46], [46, 46, 45, 45, 46, 46], [45, 46, 46, 46, 45], [46, 45, 46, 45, 46]]
/-- A byte's place among the signs; 40: it is none. -/
def placeN (b : UInt8) : Nat := signsL.findIdx (· == b)
def isSign (b : UInt8) : Bool := Nat.blt (placeN b) 40
/-- The code of a byte; empty: it is no sign. -/
def codeL (b : UInt8) : List UInt8 := codesL.getD (placeN b) []
theorem code_facts : ∀ b : UInt8, (isSign b = true → codeL b ≠ []) ∧ (isSign b = false → codeL b = []) ∧ (codeL b).length ≤ 6 ∧ (∀ c ∈ codeL b, c.toNat < 128) ∧ isSign b = signsL.contains b ∧ (isSign b = true → b.toNat < 128 ∧ b ≠ 32) := all_bytes (by decide +kernel)
theorem codesL_len : codesL.length = 40 := rfl
def byL : List (Int × ByteArray) := (signsL.zip codesL).map fun x => ((x.1.toNat : Int), mk x.2)
theorem byBytes_ev : Ev (fun k => key_byBytes.f k) byL := Ev.from 100 fun k => (by kernel_rfl : key_byBytes.f (k + 100) = some byL)
theorem mget_by : ∀ b : UInt8, mget (ByteArray.empty : ByteArray) byL (b.toNat : Int) = mk (codeL b) := all_bytes (by decide +kernel)
end Go.EV.Pure
namespace Go.EV.Pure
open Go Go.EV Go.RowKit
set_option linter.unusedSimpArgs false
set_option maxRecDepth 100000
/-! What can be said: both faults are the same. -/
def badW (p : List UInt8) : Bool := (wordsOf p).any List.isEmpty
def allS (p : List UInt8) : Bool := (wordsOf p).all fun w => w.all isSign
def saidF (p : List UInt8) : Int := if p.length > 500 then 2 else if badW p = true then 3 else if allS p = true then 0 else 3
theorem mk_nil (w : List UInt8) : mk w = (⟨#[]⟩ : ByteArray) ↔ w.isEmpty = true := by
  have : (⟨#[]⟩ : ByteArray) = mk [] := rfl
  rw [this, mk_inj]; simp
theorem Words_ev (p : List UInt8) (hp : p.length ≤ 1000000) : Ev (fun k => kit_Words.f k (mk p)) (if badW p = true then ([], false) else ((wordsOf p).map mk, true)) := by
  have hlen : (wordsOf p).length ≤ p.length + 1 := by
    rw [← words_sum p]
    have : ∀ l : List (List UInt8), l.length ≤ (l.map fun w => w.length + 1).sum := by
      intro l
      induction l with
      | nil => simp
      | cons a l ih => simp; omega
    exact this _
  unfold kit_Words.f
  simp only [split_ev p hp, Option.bind_some]
  obtain ⟨v, hv, he⟩ := loop (wordsOf p) (fun k i (_ : Unit) => kit_Words.l0 k ((wordsOf p).map mk) ((wordsOf p).map mk) (((wordsOf p).map mk).length : Int) i)
    (fun i _ => ((wordsOf p).take i).any List.isEmpty = false) (fun v => v = if badW p = true then ([], false) else ((wordsOf p).map mk, true))
    (fun i s hi hI => by
      have hr : rdE eS ((wordsOf p).map mk) (i : Int) = mk (wordsOf p)[i] := by rw [rdE_get eS _ i (by simpa using hi)]; simp
      have hl : ((wordsOf p).map mk).length = (wordsOf p).length := by simp
      by_cases c : (wordsOf p)[i].isEmpty = true
      · refine .inr ⟨([], false), ?_, Ev.succ ?_⟩
        · rw [if_pos]
          unfold badW
          rw [List.any_eq_true]
          exact ⟨_, List.getElem_mem hi, c⟩
        · simp only [kit_Words.l0, hr, hl]
          exact Ev.pos (by omega) (Ev.pos (by omega) (Ev.pos (by omega) (Ev.pos ((mk_nil _).2 c) (Ev.now _))))
      · refine .inl ⟨(), ?_, fun v hv => Ev.succ ?_⟩
        · rw [List.take_succ_eq_append_getElem hi, List.any_append, hI]
          simpa using c
        · simp only [kit_Words.l0, hr, hl, wrap_succ (show i ≤ 1000000000000000 by omega)]
          refine Ev.pos (by omega) (Ev.pos (by omega) (Ev.pos (by omega) (Ev.neg (fun h => c ((mk_nil _).1 h)) ?_)))
          simpa only [hl] using hv)
    (fun s hI => ⟨((wordsOf p).map mk, true), by
      rw [List.take_length] at hI
      rw [if_neg]
      unfold badW
      rw [hI]; simp, Ev.step (f := fun _ => some _) (fun k => by simp only [kit_Words.l0, List.length_map]; rw [if_neg (by omega)]) (Ev.now _)⟩) 0 () (by omega) (by simp)
  rw [hv] at he
  exact he
theorem drop_all {w : List UInt8} {j : Nat} (hj : j < w.length) : (w.drop j).all isSign = (isSign w[j] && (w.drop (j + 1)).all isSign) := by
  rw [List.drop_eq_getElem_cons hj, List.all_cons]
theorem CheckWord_ev (W : List ByteArray) (n : Int) (i : Nat) (w : List UInt8) (hw : rdE eS W (i : Int) = mk w) (hl : w.length ≤ 1000000) (hi : i ≤ 1000000) (v : Int) (d : Nat) :
    ∀ j : Nat, j + d = w.length → ((w.drop j).all isSign = true → Ev (fun k => key_CheckSaid.l0 k W n ((i + 1 : Nat) : Int) byL) v) → ((w.drop j).all isSign = false → v = 3) → Ev (fun k => key_CheckSaid.l1 k W n (i : Int) byL (j : Int)) v := by
  have hs := mk_size w
  induction d with
  | zero =>
    intro j hj h1 _
    refine Ev.succ ?_
    simp only [key_CheckSaid.l1, hw, hs, wrap_succ (show i ≤ 1000000000000000 by omega)]
    exact Ev.neg (by omega) (h1 (by rw [List.drop_eq_nil_of_le (by omega)]; rfl))
  | succ d ih =>
    intro j hj h1 h2
    have hjl : j < w.length := by omega
    have hb := mk_bt w j hjl
    have hd := drop_all hjl
    obtain ⟨f1, f2, _⟩ := code_facts w[j]
    refine Ev.succ ?_
    simp only [key_CheckSaid.l1, hw, hs, hb, mget_by, wrap_succ (show j ≤ 1000000000000000 by omega)]
    refine Ev.pos (by omega) (Ev.pos (by omega) (Ev.pos (by omega) ?_))
    by_cases c : isSign w[j] = true
    · have hn : ¬ mk (codeL w[j]) = (⟨#[]⟩ : ByteArray) := fun h => f1 c (by simpa using (mk_nil _).1 h)
      rw [c, Bool.true_and] at hd
      exact Ev.neg hn (ih (j + 1) (by omega) (fun h => h1 (by rw [hd]; exact h)) (fun h => h2 (by rw [hd]; exact h)))
    · have cf : isSign w[j] = false := by simpa using c
      rw [cf, Bool.false_and] at hd
      rw [h2 hd]
      exact Ev.pos ((mk_nil _).2 (by rw [f2 cf]; rfl)) (Ev.now _)
theorem CheckSaid_ev (p : List UInt8) (hp : p.length ≤ 1000000) : Ev (fun k => key_CheckSaid.f k (mk p)) (saidF p) := by
  have hs := mk_size p
  unfold key_CheckSaid.f saidF
  by_cases c0 : p.length > 500
  · rw [if_pos c0]; exact Ev.pos (by rw [hs]; omega) (Ev.now _)
  rw [if_neg c0]
  refine Ev.neg (by rw [hs]; omega) ?_
  have eW := Words_ev p hp
  by_cases c1 : badW p = true
  · rw [if_pos c1] at eW
    rw [if_pos c1]
    exact Ev.bind eW (Ev.neg (by simp) (Ev.now _))
  rw [if_neg c1] at eW
  rw [if_neg c1]
  refine Ev.bind eW (Ev.pos rfl (Ev.bind byBytes_ev ?_))
  have hsum := words_sum p
  have hwl : ∀ w ∈ wordsOf p, w.length ≤ p.length := fun w hw => by
    have : ∀ (l : List (List UInt8)), w ∈ l → w.length + 1 ≤ (l.map fun w => w.length + 1).sum := by
      intro l
      induction l with
      | nil => intro h; cases h
      | cons a l ih =>
        intro h
        simp only [List.map_cons, List.sum_cons]
        rcases List.mem_cons.1 h with rfl | h
        · omega
        · have := ih h; omega
    have := this _ hw
    omega
  have hlen : (wordsOf p).length ≤ p.length + 1 := by
    rw [← words_sum p]
    have : ∀ l : List (List UInt8), l.length ≤ (l.map fun w => w.length + 1).sum := by
      intro l
      induction l with
      | nil => simp
      | cons a l ih => simp; omega
    exact this _
  have hl : ((wordsOf p).map mk).length = (wordsOf p).length := by simp
  obtain ⟨v, hv, he⟩ := loop (wordsOf p) (fun k i (_ : Unit) => key_CheckSaid.l0 k ((wordsOf p).map mk) (((wordsOf p).map mk).length : Int) i byL)
    (fun i _ => ((wordsOf p).take i).all (fun w => w.all isSign) = true) (fun v => v = if allS p = true then 0 else 3)
    (fun i s hi hI => by
      have hr : rdE eS ((wordsOf p).map mk) (i : Int) = mk (wordsOf p)[i] := by rw [rdE_get eS _ i (by simpa using hi)]; simp
      have hwi := hwl _ (List.getElem_mem hi)
      by_cases c : (wordsOf p)[i].all isSign = true
      · refine .inl ⟨(), ?_, fun v hv => Ev.succ ?_⟩
        · rw [List.take_succ_eq_append_getElem hi, List.all_append, hI]
          simpa using c
        · simp only [key_CheckSaid.l0, hl]
          refine Ev.pos (by omega) (Ev.pos (by omega) (Ev.pos (by omega) ?_))
          rw [hl] at hv
          exact CheckWord_ev _ _ i _ hr (by omega) (by omega) v (wordsOf p)[i].length 0 (by omega) (fun _ => hv) (fun h => by
            have : (List.drop 0 (wordsOf p)[i]).all isSign = true := c
            rw [this] at h; cases h)
      · refine .inr ⟨3, ?_, Ev.succ ?_⟩
        · rw [if_neg]
          intro h
          unfold allS at h
          rw [List.all_eq_true] at h
          exact c (h _ (List.getElem_mem hi))
        · simp only [key_CheckSaid.l0, hl]
          refine Ev.pos (by omega) (Ev.pos (by omega) (Ev.pos (by omega) ?_))
          exact CheckWord_ev _ _ i _ hr (by omega) (by omega) 3 (wordsOf p)[i].length 0 (by omega) (fun h => absurd h c) (fun _ => rfl))
    (fun s hI => ⟨0, by
      rw [List.take_length] at hI
      rw [if_pos]
      exact hI, Ev.step (f := fun _ => some _) (fun k => by simp only [key_CheckSaid.l0, List.length_map]; rw [if_neg (by omega)]) (Ev.now _)⟩) 0 () (by omega) (by simp)
  rw [hv] at he
  exact he
theorem all_signs (p : List UInt8) : allS p = p.all fun b => isSign b || b == 32 := by
  rw [Bool.eq_iff_iff, allS, List.all_eq_true, List.all_eq_true]
  constructor
  · intro h b hb
    by_cases c : b = 32
    · simp [c]
    · obtain ⟨w, h1, h2⟩ := (words_bytes p b c).1 hb
      have := h w h1
      rw [List.all_eq_true] at this
      rw [this b h2]; rfl
  · intro h w hw
    rw [List.all_eq_true]
    intro b hb
    have h32 : b ≠ 32 := fun e => words_no32 p w hw (e ▸ hb)
    have := h b ((words_bytes p b h32).2 ⟨w, hw, hb⟩)
    simpa [h32] using this
end Go.EV.Pure
namespace Go.EV.Pure
open Go Go.EV Go.RowKit
set_option linter.unusedSimpArgs false
set_option maxRecDepth 100000
/-! Marks and gaps: what is keyed, in both ways. -/
def mrk (u : Int) (c : UInt8) : Int := if c = 45 then 3 * u else u
def tailE (u : Int) (l : List UInt8) : List Int := l.flatMap fun c => [u, mrk u c]
def elE (u : Int) : List UInt8 → List Int
  | [] => []
  | a :: r => mrk u a :: tailE u r
def tailW (u s : Int) (l : List UInt8) : List Int := l.flatMap fun b => 3 * s :: elE u (codeL b)
def elW (u s : Int) : List UInt8 → List Int
  | [] => []
  | a :: r => elE u (codeL a) ++ tailW u s r
def tailT (u s : Int) (l : List (List UInt8)) : List Int := l.flatMap fun w => 7 * s :: elW u s w
def elT (u s : Int) : List (List UInt8) → List Int
  | [] => []
  | a :: r => elW u s a ++ tailT u s r
theorem elE_len (u : Int) (c : List UInt8) : (elE u c).length ≤ 2 * c.length := by
  cases c with
  | nil => simp [elE]
  | cons a r =>
    have : (tailE u r).length = 2 * r.length := by
      unfold tailE
      induction r with
      | nil => rfl
      | cons b r ih => simp only [List.flatMap_cons, List.length_append, ih, List.length_cons, List.length_nil]; omega
    simp only [elE, List.length_cons, this]
    omega
theorem elC_len (u : Int) (b : UInt8) : (elE u (codeL b)).length ≤ 12 := by
  have := elE_len u (codeL b)
  have := (code_facts b).2.2.1
  omega
theorem elW_len (u s : Int) (w : List UInt8) : (elW u s w).length ≤ 13 * w.length := by
  cases w with
  | nil => simp [elW]
  | cons a r =>
    have : (tailW u s r).length ≤ 13 * r.length := by
      unfold tailW
      induction r with
      | nil => exact Nat.le_refl _
      | cons b r ih => have := elC_len u b; simp only [List.flatMap_cons, List.length_append, List.length_cons]; omega
    have := elC_len u a
    simp only [elW, List.length_append, List.length_cons]
    omega
theorem elT_len (u s : Int) (W : List (List UInt8)) : (elT u s W).length ≤ 13 * (W.map fun w => w.length + 1).sum := by
  cases W with
  | nil => simp [elT]
  | cons a r =>
    have : (tailT u s r).length ≤ 13 * (r.map fun w => w.length + 1).sum := by
      unfold tailT
      induction r with
      | nil => exact Nat.le_refl _
      | cons b r ih => have := elW_len u s b; simp only [List.flatMap_cons, List.length_append, List.length_cons, List.map_cons, List.sum_cons]; omega
    have := elW_len u s a
    simp only [elT, List.length_append, List.map_cons, List.sum_cons]
    omega
def codesW (w : List UInt8) : List ByteArray := w.map fun b => mk (codeL b)
theorem words_ev (p : List UInt8) (hp : p.length ≤ 1000) : Ev (fun k => key_words.f k (mk p)) ((wordsOf p).map codesW) := by
  have hsum := words_sum p
  have hwl : ∀ w ∈ wordsOf p, w.length ≤ p.length := fun w hw => by
    have : ∀ (l : List (List UInt8)), w ∈ l → w.length + 1 ≤ (l.map fun w => w.length + 1).sum := by
      intro l
      induction l with
      | nil => intro h; cases h
      | cons a l ih =>
        intro h
        simp only [List.map_cons, List.sum_cons]
        rcases List.mem_cons.1 h with rfl | h
        · omega
        · have := ih h; omega
    have := this _ hw
    omega
  have hlen : (wordsOf p).length ≤ p.length + 1 := by
    rw [← words_sum p]
    have : ∀ l : List (List UInt8), l.length ≤ (l.map fun w => w.length + 1).sum := by
      intro l
      induction l with
      | nil => simp
      | cons a l ih => simp; omega
    exact this _
  unfold key_words.f
  refine Ev.bind byBytes_ev ?_
  simp only [split_ev p (by omega), Option.bind_some]
  have hl : ((wordsOf p).map mk).length = (wordsOf p).length := by simp
  have inner : ∀ (i : Nat) (w : List UInt8) (o : List (List ByteArray)) (v : List (List ByteArray)), rdE eS ((wordsOf p).map mk) (i : Int) = mk w → w.length ≤ 1000 → o.length ≤ 2000 → i ≤ 2000 →
      Ev (fun k => key_words.l0 k ((wordsOf p).map mk) (((wordsOf p).map mk).length : Int) ((i + 1 : Nat) : Int) (o ++ [codesW w]) byL) v →
      ∀ (d j : Nat), j + d = w.length → Ev (fun k => key_words.l1 k ((wordsOf p).map mk) (((wordsOf p).map mk).length : Int) (i : Int) o byL (j : Int) (codesW (w.take j))) v := by
    intro i w o v hw hwl ho hi hv d
    have hs := mk_size w
    induction d with
    | zero =>
      intro j hj
      refine Ev.succ ?_
      simp only [key_words.l1, hw, hs, wrap_succ (show i ≤ 1000000000000000 by omega)]
      rw [show w.take j = w from List.take_of_length_le (by omega)]
      exact Ev.neg (by omega) (Ev.pos (by omega) hv)
    | succ d ih =>
      intro j hj
      have hjl : j < w.length := by omega
      have hb := mk_bt w j hjl
      have ht : codesW (w.take (j + 1)) = codesW (w.take j) ++ [mk (codeL w[j])] := by rw [List.take_succ_eq_append_getElem hjl]; simp only [codesW, List.map_append, List.map_cons, List.map_nil]
      have hlt : (codesW (w.take j)).length ≤ 1000 := by simp [codesW]; omega
      have := ih (j + 1) (by omega)
      rw [ht] at this
      refine Ev.succ ?_
      simp only [key_words.l1, hw, hs, hb, mget_by, wrap_succ (show j ≤ 1000000000000000 by omega)]
      exact Ev.pos (by omega) (Ev.pos (by omega) (Ev.pos (by omega) (Ev.pos (by omega) this)))
  obtain ⟨v, hv, he⟩ := loop (wordsOf p) (fun k i (o : List (List ByteArray)) => key_words.l0 k ((wordsOf p).map mk) (((wordsOf p).map mk).length : Int) i o byL)
    (fun i o => o = ((wordsOf p).take i).map codesW) (fun v => v = (wordsOf p).map codesW)
    (fun i o hi ho => .inl (by
      have hr : rdE eS ((wordsOf p).map mk) (i : Int) = mk (wordsOf p)[i] := by rw [rdE_get eS _ i (by simpa using hi)]; simp
      have hwi := hwl _ (List.getElem_mem hi)
      have ht : ((wordsOf p).take (i + 1)).map codesW = o ++ [codesW (wordsOf p)[i]] := by rw [List.take_succ_eq_append_getElem hi, ho]; simp only [List.map_append, List.map_cons, List.map_nil]
      refine ⟨_, rfl, fun v hv => Ev.succ ?_⟩
      rw [ht] at hv
      simp only [key_words.l0]
      refine Ev.pos (by omega) (Ev.pos (by omega) (Ev.pos (by omega) ?_))
      exact inner i _ o v hr (by omega) (by rw [ho]; simp; omega) (by omega) hv (wordsOf p)[i].length 0 (by omega)))
    (fun o ho => ⟨o, by rw [ho, List.take_length], Ev.step (f := fun _ => some _) (fun k => by simp only [key_words.l0]; rw [if_neg (by omega)]) (Ev.now _)⟩) 0 [] (by omega) (by simp)
  rw [hv] at he
  exact he
def appE (u : Int) (n : Nat) (c : List UInt8) : List Int := if n = 0 then elE u c else tailE u (c.drop n)
def appW (u s : Int) (n : Nat) (c : List UInt8) : List Int := if n = 0 then elW u s c else tailW u s (c.drop n)
def appT (u s : Int) (n : Nat) (c : List (List UInt8)) : List Int := if n = 0 then elT u s c else tailT u s (c.drop n)
theorem appE_step (u : Int) (n : Nat) (c : List UInt8) (h : n < c.length) : appE u n c = (if n = 0 then [] else [u]) ++ [mrk u c[n]] ++ appE u (n + 1) c := by
  unfold appE
  cases n with
  | zero =>
    cases c with
    | nil => cases h
    | cons a r => simp [elE]
  | succ n => simp only [Nat.add_one_ne_zero, if_false]; rw [List.drop_eq_getElem_cons h]; rfl
theorem appW_step (u s : Int) (n : Nat) (c : List UInt8) (h : n < c.length) : appW u s n c = (if n = 0 then [] else [3 * s]) ++ elE u (codeL c[n]) ++ appW u s (n + 1) c := by
  unfold appW
  cases n with
  | zero =>
    cases c with
    | nil => cases h
    | cons a r => simp [elW]
  | succ n => simp only [Nat.add_one_ne_zero, if_false]; rw [List.drop_eq_getElem_cons h]; rfl
theorem appT_step (u s : Int) (n : Nat) (c : List (List UInt8)) (h : n < c.length) : appT u s n c = (if n = 0 then [] else [7 * s]) ++ elW u s c[n] ++ appT u s (n + 1) c := by
  unfold appT
  cases n with
  | zero =>
    cases c with
    | nil => cases h
    | cons a r => simp [elT]
  | succ n => simp only [Nat.add_one_ne_zero, if_false]; rw [List.drop_eq_getElem_cons h]; rfl
theorem appE_end (u : Int) (c : List UInt8) : appE u c.length c = [] := by
  unfold appE
  split
  · rename_i h
    have : c = [] := List.eq_nil_of_length_eq_zero h
    subst this; rfl
  · simp [tailE]
theorem appW_end (u s : Int) (c : List UInt8) : appW u s c.length c = [] := by
  unfold appW
  split
  · rename_i h
    have : c = [] := List.eq_nil_of_length_eq_zero h
    subst this; rfl
  · simp [tailW]
theorem appT_end (u s : Int) (c : List (List UInt8)) : appT u s c.length c = [] := by
  unfold appT
  split
  · rename_i h
    have : c = [] := List.eq_nil_of_length_eq_zero h
    subst this; rfl
  · simp [tailT]
theorem lenE (u s : Int) (X : List (List ByteArray)) (n : Int) (i k : Nat) (c : List UInt8) (hc : rdE eS (rdE e_L X (i : Int)) (k : Int) = mk c) (hu : 0 ≤ u ∧ u ≤ 2000) (hk : k ≤ 2000) (hcl : c.length ≤ 100) (F : List Int) (hF : F.length ≤ 1000000) (v : List Int)
    (hv : Ev (fun k' => key_lengths.l1 k' u s X n (i : Int) ((k + 1 : Nat) : Int) F) v) (d : Nat) :
    ∀ (j : Nat) (o : List Int), j + d = c.length → o ++ appE u j c = F → Ev (fun k' => key_lengths.l2 k' u s X n (i : Int) (k : Int) (j : Int) o) v := by
  have hs := mk_size c
  induction d with
  | zero =>
    intro j o hj hF2
    have : j = c.length := by omega
    subst this
    rw [appE_end, List.append_nil] at hF2
    subst hF2
    refine Ev.succ ?_
    simp only [key_lengths.l2, hc, hs, wrap_succ (show k ≤ 1000000000000000 by omega)]
    exact Ev.neg (by omega) hv
  | succ d ih =>
    intro j o hj hF2
    have hjl : j < c.length := by omega
    have hb := mk_bt c j hjl
    rw [appE_step u j c hjl] at hF2
    have j17 : ∀ o2, o2 ++ [mrk u c[j]] ++ appE u (j + 1) c = F → Ev (fun k' => key_lengths.j17 k' u s X n (i : Int) (k : Int) (j : Int) o2) v := by
      intro o2 h2
      have hl : o2.length + 1 ≤ 1000000 := by rw [← h2] at hF; simp at hF; omega
      have := ih (j + 1) (o2 ++ [mrk u c[j]]) (by omega) h2
      have j20 : ∀ x, x = mrk u c[j] → Ev (fun k' => key_lengths.j20 k' u s X n (i : Int) (k : Int) (j : Int) o2 x) v := by
        intro x hx
        subst hx
        refine Ev.succ ?_
        simp only [key_lengths.j20, wrap_succ (show j ≤ 1000000000000000 by omega)]
        exact Ev.pos (by omega) this
      refine Ev.succ ?_
      simp only [key_lengths.j17, hc, hs, hb]
      refine Ev.pos (by omega) (Ev.pos (by omega) ?_)
      by_cases c45 : ((c[j]).toNat : Int) = 45
      · refine Ev.pos c45 (j20 _ ?_)
        have : c[j] = 45 := by
          apply UInt8.toNat_inj.1
          have h45 : (45 : UInt8).toNat = 45 := rfl
          omega
        rw [wrap_id (by omega) (by omega), mrk, if_pos this]; omega
      · refine Ev.neg c45 (j20 _ ?_)
        rw [mrk, if_neg]
        intro h
        rw [h] at c45
        exact c45 rfl
    refine Ev.succ ?_
    simp only [key_lengths.l2, hc, hs]
    refine Ev.pos (by omega) ?_
    by_cases c0 : j = 0
    · rw [if_pos c0, List.nil_append] at hF2
      exact Ev.neg (by omega) (j17 o (by simpa using hF2))
    · rw [if_neg c0] at hF2
      have hl : o.length + 1 ≤ 1000000 := by rw [← hF2] at hF; simp at hF; omega
      exact Ev.pos (by omega) (Ev.pos (by omega) (j17 (o ++ [u]) (by simpa using hF2)))
theorem lenW (u s : Int) (X : List (List ByteArray)) (n : Int) (i : Nat) (w : List UInt8) (hw : rdE e_L X (i : Int) = codesW w) (hu : 0 ≤ u ∧ u ≤ 2000) (hs : 0 ≤ s ∧ s ≤ 2000) (hi : i ≤ 2000) (hwl : w.length ≤ 1000) (F : List Int) (hF : F.length ≤ 1000000) (v : List Int)
    (hv : Ev (fun k' => key_lengths.l0 k' u s X n ((i + 1 : Nat) : Int) F) v) (d : Nat) :
    ∀ (j : Nat) (o : List Int), j + d = w.length → o ++ appW u s j w = F → Ev (fun k' => key_lengths.l1 k' u s X n (i : Int) (j : Int) o) v := by
  have hl0 : (codesW w).length = w.length := by simp [codesW]
  induction d with
  | zero =>
    intro j o hj hF2
    have : j = w.length := by omega
    subst this
    rw [appW_end, List.append_nil] at hF2
    subst hF2
    refine Ev.succ ?_
    simp only [key_lengths.l1, hw, hl0, wrap_succ (show i ≤ 1000000000000000 by omega)]
    exact Ev.neg (by omega) hv
  | succ d ih =>
    intro j o hj hF2
    have hjl : j < w.length := by omega
    rw [appW_step u s j w hjl] at hF2
    have hr : rdE eS (codesW w) (j : Int) = mk (codeL w[j]) := by rw [rdE_get eS _ j (by omega)]; simp [codesW]
    have hcl := (code_facts w[j]).2.2.1
    have j12 : ∀ o2, o2 ++ elE u (codeL w[j]) ++ appW u s (j + 1) w = F → Ev (fun k' => key_lengths.j12 k' u s X n (i : Int) (j : Int) o2) v := by
      intro o2 h2
      have hl : (o2 ++ elE u (codeL w[j])).length ≤ 1000000 := by rw [← h2] at hF; simp at hF ⊢; omega
      have := ih (j + 1) (o2 ++ elE u (codeL w[j])) (by omega) h2
      refine Ev.succ ?_
      simp only [key_lengths.j12]
      exact lenE u s X n i j (codeL w[j]) (by rw [hw]; exact hr) hu (by omega) (by omega) (o2 ++ elE u (codeL w[j])) hl v this (codeL w[j]).length 0 o2 (by omega) (by simp [appE])
    refine Ev.succ ?_
    simp only [key_lengths.l1, hw, hl0, wrap_id (e := 3 * s) (by omega) (by omega)]
    refine Ev.pos (by omega) (Ev.pos (by omega) (Ev.pos (by omega) ?_))
    by_cases c0 : j = 0
    · rw [if_pos c0, List.nil_append] at hF2
      exact Ev.neg (by omega) (j12 o (by simpa using hF2))
    · rw [if_neg c0] at hF2
      have hl : o.length + 1 ≤ 1000000 := by rw [← hF2] at hF; simp at hF; omega
      exact Ev.pos (by omega) (Ev.pos (by omega) (j12 (o ++ [3 * s]) (by simpa using hF2)))
theorem lenT (u s : Int) (W : List (List UInt8)) (hu : 0 ≤ u ∧ u ≤ 2000) (hs : 0 ≤ s ∧ s ≤ 2000) (hW : W.length ≤ 1000) (hwl : ∀ w ∈ W, w.length ≤ 1000) (F : List Int) (hF : F.length ≤ 1000000) (d : Nat) :
    ∀ (j : Nat) (o : List Int), j + d = W.length → o ++ appT u s j W = F → Ev (fun k' => key_lengths.l0 k' u s (W.map codesW) ((W.map codesW).length : Int) (j : Int) o) F := by
  have hl0 : (W.map codesW).length = W.length := by simp
  induction d with
  | zero =>
    intro j o hj hF2
    have : j = W.length := by omega
    subst this
    rw [appT_end, List.append_nil] at hF2
    subst hF2
    refine Ev.step (f := fun _ => some _) (fun k => ?_) (Ev.now _)
    simp only [key_lengths.l0, hl0]
    rw [if_neg (by omega)]
  | succ d ih =>
    intro j o hj hF2
    have hjl : j < W.length := by omega
    rw [appT_step u s j W hjl] at hF2
    have hr : rdE e_L (W.map codesW) (j : Int) = codesW W[j] := by rw [rdE_get e_L _ j (by omega)]; simp
    have hcl := hwl _ (List.getElem_mem hjl)
    have j7 : ∀ o2, o2 ++ elW u s W[j] ++ appT u s (j + 1) W = F → Ev (fun k' => key_lengths.j7 k' u s (W.map codesW) ((W.map codesW).length : Int) (j : Int) o2) F := by
      intro o2 h2
      have hl : (o2 ++ elW u s W[j]).length ≤ 1000000 := by rw [← h2] at hF; simp at hF ⊢; omega
      have := ih (j + 1) (o2 ++ elW u s W[j]) (by omega) h2
      refine Ev.succ ?_
      simp only [key_lengths.j7]
      exact lenW u s (W.map codesW) _ j W[j] hr hu hs (by omega) hcl (o2 ++ elW u s W[j]) hl F this W[j].length 0 o2 (by omega) (by simp [appW])
    refine Ev.succ ?_
    simp only [key_lengths.l0, hl0, wrap_id (e := 7 * s) (by omega) (by omega)]
    simp only [hl0] at j7
    refine Ev.pos (by omega) (Ev.pos (by omega) (Ev.pos (by omega) ?_))
    by_cases c0 : j = 0
    · rw [if_pos c0, List.nil_append] at hF2
      exact Ev.neg (by omega) (j7 o (by simpa using hF2))
    · rw [if_neg c0] at hF2
      have hl : o.length + 1 ≤ 1000000 := by rw [← hF2] at hF; simp at hF; omega
      exact Ev.pos (by omega) (Ev.pos (by omega) (j7 (o ++ [7 * s]) (by simpa using hF2)))
theorem words_bd (p : List UInt8) : (wordsOf p).length ≤ p.length + 1 ∧ ∀ w ∈ wordsOf p, w.length ≤ p.length := by
  constructor
  · rw [← words_sum p]
    have : ∀ l : List (List UInt8), l.length ≤ (l.map fun w => w.length + 1).sum := by
      intro l
      induction l with
      | nil => simp
      | cons a l ih => simp; omega
    exact this _
  · intro w hw
    have : ∀ (l : List (List UInt8)), w ∈ l → w.length + 1 ≤ (l.map fun w => w.length + 1).sum := by
      intro l
      induction l with
      | nil => intro h; cases h
      | cons a l ih =>
        intro h
        simp only [List.map_cons, List.sum_cons]
        rcases List.mem_cons.1 h with rfl | h
        · omega
        · have := ih h; omega
    have := this _ hw
    rw [words_sum p] at this
    omega
theorem lengths_ev (p : List UInt8) (hp : p.length ≤ 500) (u s : Int) (hu : 0 ≤ u ∧ u ≤ 2000) (hs : 0 ≤ s ∧ s ≤ 2000) : Ev (fun k => key_lengths.f k (mk p) u s) (elT u s (wordsOf p)) := by
  obtain ⟨b1, b2⟩ := words_bd p
  have hF := elT_len u s (wordsOf p)
  rw [words_sum p] at hF
  unfold key_lengths.f
  refine Ev.bind (words_ev p (by omega)) ?_
  exact lenT u s (wordsOf p) hu hs (by omega) (fun w hw => by have := b2 w hw; omega) _ (by omega) (wordsOf p).length 0 [] (by omega) (by simp [appT])
end Go.EV.Pure
namespace Go.EV.Pure
open Go Go.EV Go.RowKit
set_option linter.unusedSimpArgs false
set_option maxRecDepth 100000
/-! The document's way to key. -/
theorem code_bytes : ∀ b : UInt8, ∀ c ∈ codeL b, c = 45 ∨ c = 46 := all_bytes (by decide +kernel)
theorem said_all {p : List UInt8} (h : saidF p = 0) : p.length ≤ 500 ∧ (∀ b ∈ p, isSign b = true ∨ b = 32) ∧ ∀ x ∈ wordsOf p, x ≠ [] ∧ ∀ b ∈ x, isSign b = true := by
  unfold saidF at h
  split at h
  · cases h
  · rename_i c0
    split at h
    · cases h
    · rename_i c1
      split at h
      · rename_i c2
        have hal := c2
        rw [all_signs, List.all_eq_true] at c2
        refine ⟨by omega, fun b hb => by simpa using c2 b hb, fun x hx => ⟨fun e => c1 ?_, ?_⟩⟩
        · unfold badW
          rw [List.any_eq_true]
          exact ⟨x, hx, by rw [e]; rfl⟩
        · unfold allS at hal
          rw [List.all_eq_true] at hal
          have := hal x hx
          rw [List.all_eq_true] at this
          exact this
      · cases h
end Go.EV.Pure
namespace Go.EV.Pure
open Go Go.EV Go.RowKit
set_option linter.unusedSimpArgs false
set_option maxRecDepth 100000
end Go.EV.Pure
namespace Go.EV.Pure
open Go Go.EV Go.RowKit
set_option linter.unusedSimpArgs false
set_option maxRecDepth 100000
end Go.EV.Pure
namespace Go.EV.Pure
open Go Go.EV Go.RowKit
set_option linter.unusedSimpArgs false
set_option maxRecDepth 100000
/-! The table of signs, codes written and read, both ways. -/
def sgL : List (ByteArray × ByteArray) := (signsL.zip codesL).map fun x => (mk [x.1], mk x.2)
theorem sgL_at (j : Nat) (h : j < 40) : sgL[j]'(by rw [show sgL.length = 40 from rfl]; exact h) = (mk [signsL.getD j 0], mk (codesL.getD j [])) := by
  have h1 : j < signsL.length := h
  have h2 : j < codesL.length := h
  simp [sgL, List.getD, List.getElem?_eq_getElem h1, List.getElem?_eq_getElem h2]
theorem Codes_sg : Ev (fun k => key_Codes.f k) sgL := Ev.from 100 fun k => (by kernel_rfl : key_Codes.f (k + 100) = some sgL)
end Go.EV.Pure
namespace Go.EV.Pure
open Go Go.EV Go.RowKit
set_option linter.unusedSimpArgs false
set_option maxRecDepth 100000
/-! Codes read. -/
def signF (a : ByteArray) : ByteArray := match sgL.find? (fun x => decide (x.2 = a)) with
  | some x => x.1
  | none => mk [42]
theorem signF_size (a : ByteArray) : (signF a).size = 1 := by
  unfold signF
  split
  · rename_i x hx
    have hm := List.mem_of_find?_eq_some hx
    have : ∀ x ∈ sgL, x.1.size = 1 := by decide +kernel
    exact this x hm
  · rfl
def signL (c : List UInt8) : List UInt8 := (signF (mk c)).data.toList
theorem signL_mk (c : List UInt8) : signF (mk c) = mk (signL c) := mk_of _
theorem signL_len (c : List UInt8) : (signL c).length = 1 := by
  have := signF_size (mk c)
  unfold signL
  rw [Array.length_toList]
  exact this
def byC : List (ByteArray × ByteArray) := sgL.map fun x => (x.2, x.1)
theorem byCodes_ev : Ev (fun k => key_byCodes.f k) byC := Ev.from 100 fun k => (by kernel_rfl : key_byCodes.f (k + 100) = some byC)
theorem mget_find (a d : ByteArray) : ∀ L : List (ByteArray × ByteArray), (a ∈ (L.map fun x => (x.2, x.1)).map Prod.fst ↔ (L.find? (fun x => decide (x.2 = a))).isSome = true) ∧
    ∀ x, L.find? (fun x => decide (x.2 = a)) = some x → mget d (L.map fun x => (x.2, x.1)) a = x.1
  | [] => by simp
  | y :: r => by
    obtain ⟨i1, i2⟩ := mget_find a d r
    by_cases c : y.2 = a
    · have hf : (y :: r).find? (fun x => decide (x.2 = a)) = some y := by rw [List.find?_cons, decide_eq_true c]
      rw [hf]
      refine ⟨by simp [c], fun x hx => ?_⟩
      cases hx
      simp [mget, c]
    · have hf : (y :: r).find? (fun x => decide (x.2 = a)) = r.find? (fun x => decide (x.2 = a)) := by rw [List.find?_cons, decide_eq_false c]
      rw [hf, ← i1]
      refine ⟨?_, fun x hx => ?_⟩
      · simp only [List.map_cons, List.mem_cons]
        constructor
        · rintro (h | h)
          · exact absurd h.symm c
          · exact h
        · exact fun h => .inr h
      · rw [← i2 x hx]
        unfold mget
        have hb : (y.2 == a) = false := by simpa using c
        simp only [List.map_cons, List.idxOf_cons, hb, cond_false, List.getD_cons_succ]
theorem keySign (a : ByteArray) : key_signOf.f byC a = some (signF a) := by
  obtain ⟨h1, h2⟩ := mget_find a ByteArray.empty sgL
  unfold key_signOf.f signF
  by_cases c : a ∈ List.map Prod.fst byC
  · rw [if_pos c]
    have hs := h1.1 c
    cases hf : sgL.find? (fun x => decide (x.2 = a)) with
    | none => rw [hf] at hs; cases hs
    | some x => show some _ = some x.1; rw [← h2 x hf]; rfl
  · rw [if_neg c]
    cases hf : sgL.find? (fun x => decide (x.2 = a)) with
    | none => rfl
    | some x => exact absurd (h1.2 (by rw [hf]; rfl)) c
end Go.EV.Pure
namespace Go.EV.Pure
open Go Go.EV Go.RowKit
set_option linter.unusedSimpArgs false
set_option linter.unusedVariables false
set_option maxRecDepth 100000
/-! Marks and gaps: how far they are from a unit, and what they are read as. -/
def dst (a b : Int) : Int := mx (a - b) (b - a)
def nearF (a u : Int) (m : Bool) : Int × Int :=
  if m = true then (if dst a (3 * u) < dst a u then (3, dst a (3 * u)) else (1, dst a u))
  else if dst a (7 * u) < (if dst a (3 * u) < dst a u then dst a (3 * u) else dst a u) then (7, dst a (7 * u)) else (if dst a (3 * u) < dst a u then (3, dst a (3 * u)) else (1, dst a u))
theorem dst_bd {a b N : Int} (ha : 0 ≤ a ∧ a ≤ N) (hb : 0 ≤ b ∧ b ≤ N) : 0 ≤ dst a b ∧ dst a b ≤ N := by
  unfold dst
  rw [mx_eq]
  split <;> omega
theorem isMark_ev (i : Nat) : key_isMark.f (i : Int) = some (decide (i % 2 = 0)) := by
  unfold key_isMark.f
  rw [tmod_pos (by omega)]
  have e : ((i : Int) % 2 = 0) ↔ (i % 2 = 0) := by omega
  simp only [e]
theorem near_step (a u : Int) (L : List Int) (i : Nat) (n x6 x7 : Int) (ha : 0 ≤ a ∧ a ≤ 1000000) (hu : 0 ≤ u ∧ u ≤ 100000) (hi : i < L.length) (hL : L.length ≤ 100) (hn : L[i] = n) (hn0 : 1 ≤ n ∧ n ≤ 7) (v : Int × Int)
    (h1 : x7 < 0 ∨ dst a (n * u) < x7 → Ev (fun k => key_nearest.l0 k a u L n (dst a (n * u)) ((i + 1 : Nat) : Int)) v)
    (h2 : ¬ (x7 < 0 ∨ dst a (n * u) < x7) → Ev (fun k => key_nearest.l0 k a u L x6 x7 ((i + 1 : Nat) : Int)) v) : Ev (fun k => key_nearest.l0 k a u L x6 x7 (i : Int)) v := by
  have hr := rd_get L i hi
  have hnu : 0 ≤ n * u ∧ n * u ≤ 700000 := by
    obtain ⟨q0, q1⟩ := hn0
    have : n = 1 ∨ n = 2 ∨ n = 3 ∨ n = 4 ∨ n = 5 ∨ n = 6 ∨ n = 7 := by omega
    rcases this with rfl | rfl | rfl | rfl | rfl | rfl | rfl <;> omega
  have hd : mx (wrap64 (a - wrap64 (n * u))) (wrap64 (wrap64 (n * u) - a)) = dst a (n * u) := by
    rw [wrap_id (e := n * u) (by omega) (by omega), wrap_id (e := a - n * u) (by omega) (by omega), wrap_id (e := n * u - a) (by omega) (by omega)]
    rfl
  have hj : ∀ y z : Int, Ev (fun k => key_nearest.l0 k a u L y z ((i + 1 : Nat) : Int)) v → Ev (fun k => key_nearest.j11 k a u L (i : Int) y z) v := fun y z h => Ev.step (fun k => by simp only [key_nearest.j11, wrap_succ (show i ≤ 1000000000000000 by omega)]) h
  refine Ev.succ ?_
  simp only [key_nearest.l0, hr, hn, hd]
  refine Ev.pos (by omega) (Ev.pos (by omega) (Ev.pos (by omega) ?_))
  by_cases c : x7 < 0
  · exact Ev.pos c (hj _ _ (h1 (.inl c)))
  · refine Ev.neg c ?_
    by_cases c2 : dst a (n * u) < x7
    · exact Ev.pos c2 (hj _ _ (h1 (.inr c2)))
    · exact Ev.neg c2 (hj _ _ (h2 (by omega)))
theorem near_end (a u : Int) (L : List Int) (x6 x7 : Int) (i : Nat) (hi : i = L.length) : Ev (fun k => key_nearest.l0 k a u L x6 x7 (i : Int)) (x6, x7) := by
  refine Ev.succ ?_
  simp only [key_nearest.l0]
  exact Ev.neg (by omega) (Ev.now _)
theorem nearest_ev (a u : Int) (m : Bool) (ha : 0 ≤ a ∧ a ≤ 1000000) (hu : 0 ≤ u ∧ u ≤ 100000) : Ev (fun k => key_nearest.f k a u m) (nearF a u m) := by
  have b1 := (dst_bd (N := 1000000) ha (b := 1 * u) (by omega)).1
  have b3 := (dst_bd (N := 1000000) ha (b := 3 * u) (by omega)).1
  have e1 : (1 : Int) * u = u := by omega
  unfold key_nearest.f
  cases m with
  | true =>
    refine Ev.pos rfl (Ev.pos (by decide) (Ev.succ ?_))
    simp only [key_nearest.j4]
    have hL : ([1, 3, 7] : List Int).take 2 = [1, 3] := rfl
    rw [hL]
    refine near_step a u [1, 3] 0 1 0 (-1) ha hu (by decide) (by decide) rfl (by omega) _ (fun _ => ?_) (fun h => absurd (.inl (by omega)) h)
    refine near_step a u [1, 3] 1 3 1 (dst a (1 * u)) ha hu (by decide) (by decide) rfl (by omega) _ (fun h => ?_) (fun h => ?_)
    · have e : nearF a u true = (3, dst a (3 * u)) := by unfold nearF; rw [e1] at h; rw [if_pos rfl, if_pos (by rw [e1] at b1; omega)]
      rw [e]
      exact near_end a u [1, 3] _ _ 2 rfl
    · have e : nearF a u true = (1, dst a (1 * u)) := by unfold nearF; rw [e1] at h ⊢; rw [if_pos rfl, if_neg (by omega)]
      rw [e]
      exact near_end a u [1, 3] _ _ 2 rfl
  | false =>
    refine Ev.neg Bool.false_ne_true (Ev.succ ?_)
    simp only [key_nearest.j4]
    refine near_step a u [1, 3, 7] 0 1 0 (-1) ha hu (by decide) (by decide) rfl (by omega) _ (fun _ => ?_) (fun h => absurd (.inl (by omega)) h)
    refine near_step a u [1, 3, 7] 1 3 1 (dst a (1 * u)) ha hu (by decide) (by decide) rfl (by omega) _ (fun h => ?_) (fun h => ?_)
    · rw [e1] at h b1
      have h' : dst a (3 * u) < dst a u := by omega
      refine near_step a u [1, 3, 7] 2 7 3 (dst a (3 * u)) ha hu (by decide) (by decide) rfl (by omega) _ (fun h2 => ?_) (fun h2 => ?_)
      · have e : nearF a u false = (7, dst a (7 * u)) := by unfold nearF; rw [if_neg Bool.false_ne_true, if_pos h', if_pos (by omega)]
        rw [e]
        exact near_end a u [1, 3, 7] _ _ 3 rfl
      · have e : nearF a u false = (3, dst a (3 * u)) := by unfold nearF; rw [if_neg Bool.false_ne_true, if_pos h', if_neg (by omega), if_pos h']
        rw [e]
        exact near_end a u [1, 3, 7] _ _ 3 rfl
    · rw [e1] at h b1 ⊢
      have h' : ¬ dst a (3 * u) < dst a u := by omega
      refine near_step a u [1, 3, 7] 2 7 1 (dst a u) ha hu (by decide) (by decide) rfl (by omega) _ (fun h2 => ?_) (fun h2 => ?_)
      · have e : nearF a u false = (7, dst a (7 * u)) := by unfold nearF; rw [if_neg Bool.false_ne_true, if_neg h', if_pos (by omega)]
        rw [e]
        exact near_end a u [1, 3, 7] _ _ 3 rfl
      · have e : nearF a u false = (1, dst a u) := by unfold nearF; rw [if_neg Bool.false_ne_true, if_neg h', if_neg (by omega), if_neg h']
        rw [e]
        exact near_end a u [1, 3, 7] _ _ 3 rfl
def MK (N : Int) (l : List Int) : Prop := l.length ≤ 20000 ∧ ∀ x ∈ l, 1 ≤ x ∧ x ≤ N
def offA (a u : Int) (m : Bool) : Int := (nearF a u m).2
theorem offA_mark (a u : Int) : offA a u true = mn (dst a u) (dst a (3 * u)) := by
  unfold offA nearF
  rw [if_pos rfl, mn_eq]
  split <;> rfl
theorem offA_gap (a u : Int) : offA a u false = mn (mn (dst a u) (dst a (3 * u))) (dst a (7 * u)) := by
  unfold offA nearF
  rw [if_neg Bool.false_ne_true, mn_eq, mn_eq]
  split <;> split <;> rfl
theorem offA_bd {a u : Int} {m : Bool} (ha : 0 ≤ a ∧ a ≤ 100000) (hu : 0 ≤ u ∧ u ≤ 10000) : 0 ≤ offA a u m ∧ offA a u m ≤ 100000 := by
  have b1 := dst_bd ha (b := u) (by omega)
  have b3 := dst_bd ha (b := 3 * u) (by omega)
  have b7 := dst_bd ha (b := 7 * u) (by omega)
  cases m with
  | true => rw [offA_mark, mn_eq]; split <;> omega
  | false => rw [offA_gap, mn_eq, mn_eq]; split <;> (try split) <;> omega
def offL (u : Int) : Nat → List Int → Int
  | _, [] => 0
  | i, a :: r => offA a u (decide (i % 2 = 0)) + offL u (i + 1) r
theorem off_run (l : List Int) (u : Int) (hl : MK 100000 l) (hu : 1 ≤ u ∧ u ≤ 2000) (d : Nat) : ∀ (i : Nat) (s : Int), i + d = l.length → 0 ≤ s ∧ s ≤ 100000 * (i : Int) → Ev (fun k => key_offOf.l0 k l u s (i : Int)) (s + offL u i (l.drop i)) := by
  have hll := hl.1
  induction d with
  | zero =>
    intro i s hi hs
    rw [List.drop_eq_nil_of_le (by omega)]
    refine Ev.succ ?_
    simp only [key_offOf.l0, offL, Int.add_zero]
    exact Ev.neg (by omega) (Ev.now _)
  | succ d ih =>
    intro i s hi hs
    have hil : i < l.length := by omega
    have ha := hl.2 _ (List.getElem_mem hil)
    have hr := rd_get l i hil
    rw [List.drop_eq_getElem_cons hil]
    generalize l[i] = a at ha hr
    have b := offA_bd (a := a) (u := u) (m := decide (i % 2 = 0)) (by omega) (by omega)
    have w3 : wrap64 (3 * u) = 3 * u := wrap_id (by omega) (by omega)
    have w7 : wrap64 (7 * u) = 7 * u := wrap_id (by omega) (by omega)
    have d1 : mx (wrap64 (a - u)) (wrap64 (u - a)) = dst a u := by rw [wrap_id (e := a - u) (by omega) (by omega), wrap_id (e := u - a) (by omega) (by omega)]; rfl
    have d3 : mx (wrap64 (a - 3 * u)) (wrap64 (3 * u - a)) = dst a (3 * u) := by rw [wrap_id (e := a - 3 * u) (by omega) (by omega), wrap_id (e := 3 * u - a) (by omega) (by omega)]; rfl
    have d7 : mx (wrap64 (a - 7 * u)) (wrap64 (7 * u - a)) = dst a (7 * u) := by rw [wrap_id (e := a - 7 * u) (by omega) (by omega), wrap_id (e := 7 * u - a) (by omega) (by omega)]; rfl
    have ih2 := ih (i + 1) (s + offA a u (decide (i % 2 = 0))) (by omega) (by omega)
    have hj : Ev (fun k => key_offOf.j9 k l u s (i : Int) (offA a u (decide (i % 2 = 0)))) (s + (offA a u (decide (i % 2 = 0)) + offL u (i + 1) (l.drop (i + 1)))) := by
      refine Ev.step (fun k => ?_) (by rw [Int.add_assoc] at ih2; exact ih2)
      simp only [key_offOf.j9, wrap_succ (show i ≤ 1000000000000000 by omega)]
      rw [wrap_id (e := s + offA a u (decide (i % 2 = 0))) (by omega) (by omega)]
    refine Ev.succ ?_
    simp only [key_offOf.l0, hr, w3, w7, d1, d3, d7, isMark_ev, Option.bind_some, offL]
    refine Ev.pos (by omega) (Ev.pos (by omega) (Ev.pos (by omega) ?_))
    by_cases c : i % 2 = 0
    · have c2 : decide (i % 2 = 0) = true := decide_eq_true c
      rw [c2] at hj ⊢
      rw [offA_mark] at hj ⊢
      exact Ev.pos rfl hj
    · have c2 : decide (i % 2 = 0) = false := decide_eq_false c
      rw [c2] at hj ⊢
      rw [offA_gap] at hj ⊢
      exact Ev.neg Bool.false_ne_true hj
theorem offOf_ev (l : List Int) (u : Int) (hl : MK 100000 l) (hu : 1 ≤ u ∧ u ≤ 2000) : Ev (fun k => key_offOf.f k l u) (offL u 0 l) := by
  have := off_run l u hl hu l.length 0 0 (by omega) (by omega)
  unfold key_offOf.f
  simpa using this
/-! ### reading -/
def rdS (u : Int) : Nat → List UInt8 → List UInt8 → List Int → List UInt8
  | _, o, c, [] => o ++ signL c
  | i, o, c, a :: r =>
    if decide (i % 2 = 0) = true then rdS u (i + 1) o (c ++ [if (nearF a u true).1 = 1 then 46 else 45]) r
    else if (nearF a u false).1 = 3 then rdS u (i + 1) (o ++ signL c) [] r
    else if (nearF a u false).1 = 7 then rdS u (i + 1) (o ++ signL c ++ [32]) [] r
    else rdS u (i + 1) o c r
theorem mk_push (p : List UInt8) (b : UInt8) : (mk p).push b = mk (p ++ [b]) := by
  apply ByteArray.ext
  show p.toArray.push b = _
  simp [mk]
theorem wByte (v : Nat) (p : List UInt8) (b : UInt8) (hp : p.length ≤ 1000000) : strings_Builder_WriteByte.f v (mk p) (b.toNat : Int) = some (v + 1, mk (p ++ [b])) := by
  unfold strings_Builder_WriteByte.f
  have hb : b.toNat < 256 := UInt8.toNat_lt b
  rw [if_pos ⟨by rw [mk_size]; omega, by omega, by omega⟩]
  have : UInt8.ofNat ((b.toNat : Int)).toNat = b := by simp
  rw [this, mk_push]
theorem read1_ev (v0 v2 : Nat) (o c : List UInt8) (ho : o.length ≤ 1000000) : ∃ w0 w2, key_read_1.f v0 (mk o) byC v2 (mk c) = some (w0, mk (o ++ signL c), w2, mk []) := by
  refine ⟨v0 + 1, v2 + 1, ?_⟩
  unfold key_read_1.f strings_Builder_String.f strings_Builder_Reset.f strings_Builder_WriteString.f
  simp only [Option.bind_some, keySign, signL_mk]
  rw [if_pos (by rw [mk_size, mk_size, signL_len]; omega), mk_append]
  rfl
theorem read_run (l : List Int) (u : Int) (hl : MK 100000 l) (hu : 1 ≤ u ∧ u ≤ 2000) (d : Nat) : ∀ (i : Nat) (v0 v2 : Nat) (o c : List UInt8), i + d = l.length → o.length ≤ 2 * i → c.length ≤ i → Ev (fun k => key_read.l0 k l u (i : Int) byC v0 (mk o) v2 (mk c)) (mk (rdS u i o c (l.drop i))) := by
  have hll := hl.1
  induction d with
  | zero =>
    intro i v0 v2 o c hi ho hc
    rw [List.drop_eq_nil_of_le (by omega)]
    obtain ⟨w0, w2, e⟩ := read1_ev v0 v2 o c (by omega)
    refine Ev.succ ?_
    simp only [key_read.l0, rdS, e, Option.bind_some, strings_Builder_String.f]
    exact Ev.neg (by omega) (Ev.now _)
  | succ d ih =>
    intro i v0 v2 o c hi ho hc
    have hil : i < l.length := by omega
    have ha := hl.2 _ (List.getElem_mem hil)
    have hr := rd_get l i hil
    rw [List.drop_eq_getElem_cons hil]
    generalize l[i] = a at ha hr
    have hj : ∀ w0 w2 o' c', o'.length ≤ 2 * (i + 1) → c'.length ≤ i + 1 → Ev (fun k => key_read.j17 k l u (i : Int) byC w0 (mk o') w2 (mk c')) (mk (rdS u (i + 1) o' c' (l.drop (i + 1)))) := fun w0 w2 o' c' h1 h2 =>
      Ev.step (fun k => by simp only [key_read.j17, wrap_succ (show i ≤ 1000000000000000 by omega)]) (ih (i + 1) w0 w2 o' c' (by omega) h1 h2)
    have hn := fun m => nearest_ev a u m (by omega) (by omega)
    obtain ⟨w0, w2, e⟩ := read1_ev v0 v2 o c (by omega)
    have lo : (o ++ signL c).length ≤ 2 * (i + 1) := by rw [List.length_append, signL_len]; omega
    refine Ev.succ ?_
    simp only [key_read.l0, hr, isMark_ev, Option.bind_some, rdS]
    refine Ev.pos (by omega) (Ev.pos (by omega) (Ev.pos (by omega) ?_))
    by_cases c0 : i % 2 = 0
    · have c2 : decide (i % 2 = 0) = true := decide_eq_true c0
      simp only [c2, if_pos]
      refine Ev.bind (hn true) ?_
      by_cases c1 : (nearF a u true).1 = 1
      · have := wByte v2 c 46 (by omega)
        simp only [UInt8.reduceToNat] at this
        simp only [if_pos c1]
        rw [show (46 : Int) = ((46 : UInt8).toNat : Int) from rfl, wByte v2 c 46 (by omega)]
        exact hj _ _ _ _ (by omega) (by simp; omega)
      · simp only [if_neg c1]
        rw [show (45 : Int) = ((45 : UInt8).toNat : Int) from rfl, wByte v2 c 45 (by omega)]
        exact hj _ _ _ _ (by omega) (by simp; omega)
    · have c2 : decide (i % 2 = 0) = false := decide_eq_false c0
      simp only [c2, if_neg Bool.false_ne_true]
      refine Ev.bind (hn false) ?_
      by_cases c3 : (nearF a u false).1 = 3
      · simp only [if_pos c3, e, Option.bind_some]
        exact hj _ _ _ _ lo (by simp)
      · simp only [if_neg c3]
        by_cases c7 : (nearF a u false).1 = 7
        · simp only [if_pos c7, e, Option.bind_some]
          rw [show (32 : Int) = ((32 : UInt8).toNat : Int) from rfl, wByte w0 (o ++ signL c) 32 (by omega)]
          exact hj _ _ _ _ (by rw [List.length_append, List.length_append, signL_len]; simp; omega) (by simp)
        · simp only [if_neg c7]
          exact hj _ _ _ _ (by omega) (by omega)
def readL (u : Int) (l : List Int) : List UInt8 := rdS u 0 [] [] l
theorem read_ev (l : List Int) (u : Int) (hl : MK 100000 l) (hu : 1 ≤ u ∧ u ≤ 2000) : Ev (fun k => key_read.f k l u) (mk (readL u l)) := by
  unfold key_read.f
  have := read_run l u hl hu l.length 0 0 0 [] [] (by omega) (by simp) (by simp)
  rw [List.drop_zero] at this
  exact Ev.bind byCodes_ev this
theorem CheckOK (l : List Int) (hl : MK 100000 l) (ho : l.length % 2 = 1) : Ev (fun k => key_CheckMarks.f k l) 0 := by
  have hll := hl.1
  obtain ⟨v, rfl, hv⟩ := loop l (fun k i (_ : Unit) => slices_IndexFunc_int_int_of_key_CheckMarks_1.l0 k l i) (fun _ _ => True) (fun v => v = -1)
    (fun i _ hi _ => .inl ⟨(), trivial, fun v hv => Ev.step (fun k => by
      have hx := hl.2 _ (List.getElem_mem hi)
      simp only [slices_IndexFunc_int_int_of_key_CheckMarks_1.l0, key_CheckMarks_1.f, kit_Outside.f]
      rw [if_pos (by omega), if_pos (by omega), if_pos (by omega), rd_get l i hi, if_neg (by omega)]
      simp only [Option.bind_some]
      rw [if_neg (by simp; omega), wrap_succ (by omega)]) hv⟩)
    (fun _ _ => ⟨-1, rfl, Ev.step (f := fun _ => some _) (fun k => by simp only [slices_IndexFunc_int_int_of_key_CheckMarks_1.l0]; rw [if_neg (by omega)]) (Ev.now _)⟩) 0 () (by omega) trivial
  have hc : Ev (fun k => slices_ContainsFunc_int_int_of_key_CheckMarks_1.f k l) false := Ev.bind (f := fun k => slices_IndexFunc_int_int_of_key_CheckMarks_1.l0 k l 0) hv (Ev.now _)
  unfold key_CheckMarks.f
  refine Ev.neg (by omega) (Ev.neg (by omega) (Ev.neg ?_ (Ev.bind hc (Ev.neg Bool.false_ne_true (Ev.now _)))))
  rw [tmod_pos (by omega)]
  omega
theorem unitOK (l : List Int) (u : Int) (hl : MK 100000 l) (ho : l.length % 2 = 1) (hu : 1 ≤ u ∧ u ≤ 2000) : Ev (fun k => key_unitFault.f k l u) 0 := by
  have hO : kit_Outside.f u 1 2000 = some false := by unfold kit_Outside.f; rw [if_neg (by omega)]; simp; omega
  unfold key_unitFault.f
  simp only [hO, Option.bind_some]
  exact Ev.bind (CheckOK l hl ho) (Ev.pos rfl (Ev.neg Bool.false_ne_true (Ev.now _)))
theorem With_ev (l : List Int) (u : Int) (hl : MK 100000 l) (ho : l.length % 2 = 1) (hu : 1 ≤ u ∧ u ≤ 2000) : Ev (fun k => key_With.f k l u) (mk (readL u l), offL u 0 l, 0) := by
  unfold key_With.f
  exact Ev.bind (unitOK l u hl ho hu) (Ev.pos rfl (Ev.bind (read_ev l u hl hu) (Ev.bind (offOf_ev l u hl hu) (Ev.now _))))
/-- The unit that fits best, of those up to n: the greatest one. -/
def Best (l : List Int) (n b : Int) : Prop := 1 ≤ b ∧ b ≤ n ∧ ∀ u, 1 ≤ u → u ≤ n → offL b 0 l ≤ offL u 0 l ∧ (offL b 0 l = offL u 0 l → u ≤ b)
theorem Best.uniq {l : List Int} {n b c : Int} (h : Best l n b) (h2 : Best l n c) : b = c := by
  have a1 := h.2.2 c h2.1 h2.2.1
  have a2 := h2.2.2 b h.1 h.2.1
  have := a1.2 (by omega)
  have := a2.2 (by omega)
  omega
end Go.EV.Pure
namespace Go.EV.Pure
open Go Go.EV Go.RowKit
set_option linter.unusedSimpArgs false
set_option maxRecDepth 100000
/-! What is drawn as marks and gaps. -/
theorem elE_all (u N : Int) (hu : 1 ≤ u ∧ 3 * u ≤ N) (c : List UInt8) : ∀ x ∈ elE u c, 1 ≤ x ∧ x ≤ N := by
  have hm : ∀ b, 1 ≤ mrk u b ∧ mrk u b ≤ N := fun b => by unfold mrk; split <;> omega
  cases c with
  | nil => intro x hx; cases hx
  | cons a r =>
    intro x hx
    rcases List.mem_cons.1 hx with rfl | hx
    · exact hm a
    · obtain ⟨b, _, hb⟩ := List.mem_flatMap.1 hx
      simp only [List.mem_cons, List.not_mem_nil, or_false] at hb
      rcases hb with rfl | rfl
      · omega
      · exact hm b
theorem elE_odd (u : Int) (c : List UInt8) (hc : c ≠ []) : (elE u c).length = 2 * c.length - 1 := by
  cases c with
  | nil => exact absurd rfl hc
  | cons a r =>
    have : (tailE u r).length = 2 * r.length := by
      unfold tailE
      induction r with
      | nil => rfl
      | cons b r ih => simp only [List.flatMap_cons, List.length_append, ih (by simp), List.length_cons, List.length_nil]; omega
    simp only [elE, List.length_cons, this]
    omega
theorem elW_all (u s N : Int) (hu : 1 ≤ u ∧ 3 * u ≤ N) (hs : 1 ≤ s ∧ 3 * s ≤ N) (w : List UInt8) : ∀ x ∈ elW u s w, 1 ≤ x ∧ x ≤ N := by
  cases w with
  | nil => intro x hx; cases hx
  | cons a r =>
    intro x hx
    rcases List.mem_append.1 hx with hx | hx
    · exact elE_all u N hu _ x hx
    · obtain ⟨b, _, hb⟩ := List.mem_flatMap.1 hx
      rcases List.mem_cons.1 hb with rfl | hb
      · omega
      · exact elE_all u N hu _ x hb
theorem elW_odd (u s : Int) (w : List UInt8) (hw : w ≠ []) (h : ∀ b ∈ w, isSign b = true) : (elW u s w).length % 2 = 1 := by
  have hc : ∀ b ∈ w, (elE u (codeL b)).length % 2 = 1 := fun b hb => by
    have h1 := (code_facts b).1 (h b hb)
    have := elE_odd u _ h1
    have : 1 ≤ (codeL b).length := List.length_pos_iff.2 h1
    omega
  cases w with
  | nil => exact absurd rfl hw
  | cons a r =>
    have ht : ∀ r : List UInt8, (∀ b ∈ r, (elE u (codeL b)).length % 2 = 1) → (tailW u s r).length % 2 = 0 := by
      intro r
      induction r with
      | nil => intro _; rfl
      | cons b r ih =>
        intro hh
        have h1 := hh b (by simp)
        have h2 := ih (fun x hx => hh x (by simp [hx]))
        unfold tailW at h2 ⊢
        simp only [List.flatMap_cons, List.length_append, List.length_cons]
        omega
    have h1 := hc a (by simp)
    have h2 := ht r (fun b hb => hc b (by simp [hb]))
    simp only [elW, List.length_append]
    omega
theorem elT_all (u s N : Int) (hu : 1 ≤ u ∧ 3 * u ≤ N) (hs : 1 ≤ s ∧ 7 * s ≤ N) (W : List (List UInt8)) : ∀ x ∈ elT u s W, 1 ≤ x ∧ x ≤ N := by
  cases W with
  | nil => intro x hx; cases hx
  | cons a r =>
    intro x hx
    rcases List.mem_append.1 hx with hx | hx
    · exact elW_all u s N hu (by omega) _ x hx
    · obtain ⟨b, _, hb⟩ := List.mem_flatMap.1 hx
      rcases List.mem_cons.1 hb with rfl | hb
      · omega
      · exact elW_all u s N hu (by omega) _ x hb
theorem elT_odd (u s : Int) (W : List (List UInt8)) (hW : W ≠ []) (h : ∀ w ∈ W, w ≠ [] ∧ ∀ b ∈ w, isSign b = true) : (elT u s W).length % 2 = 1 := by
  have hc : ∀ w ∈ W, (elW u s w).length % 2 = 1 := fun w hw => elW_odd u s w (h w hw).1 (h w hw).2
  cases W with
  | nil => exact absurd rfl hW
  | cons a r =>
    have ht : ∀ r : List (List UInt8), (∀ w ∈ r, (elW u s w).length % 2 = 1) → (tailT u s r).length % 2 = 0 := by
      intro r
      induction r with
      | nil => intro _; rfl
      | cons b r ih =>
        intro hh
        have h1 := hh b (by simp)
        have h2 := ih (fun x hx => hh x (by simp [hx]))
        unfold tailT at h2 ⊢
        simp only [List.flatMap_cons, List.length_append, List.length_cons]
        omega
    have h1 := hc a (by simp)
    have h2 := ht r (fun b hb => hc b (by simp [hb]))
    simp only [elT, List.length_append]
    omega
end Go.EV.Pure
namespace Go.EV.Pure
open Go Go.EV Go.RowKit
set_option linter.unusedSimpArgs false
set_option linter.unusedVariables false
set_option maxRecDepth 100000
/-! What is keyed evenly is heard as it was said. -/
theorem sign_code : ∀ b : UInt8, isSign b = true → signL (codeL b) = [b] := all_bytes (by decide +kernel)
theorem dst_self (a : Int) : dst a a = 0 := by unfold dst; rw [mx_eq]; split <;> omega
theorem dst_lt {a b : Int} (h : a ≤ b) : dst a b = b - a := by unfold dst; rw [mx_eq]; split <;> omega
theorem dst_gt {a b : Int} (h : b ≤ a) : dst a b = a - b := by unfold dst; rw [mx_eq]; split <;> omega
theorem near_u {u : Int} (hu : 1 ≤ u) (m : Bool) : nearF u u m = (1, 0) := by
  have h1 := dst_self u
  have h3 := dst_lt (a := u) (b := 3 * u) (by omega)
  have h7 := dst_lt (a := u) (b := 7 * u) (by omega)
  unfold nearF
  rw [h1, h3, h7]
  cases m
  · rw [if_neg Bool.false_ne_true, if_neg (by omega : ¬ (3 * u - u < 0)), if_neg (by omega), if_neg (by omega)]
  · rw [if_pos rfl, if_neg (by omega)]
theorem near_3 {u : Int} (hu : 1 ≤ u) (m : Bool) : nearF (3 * u) u m = (3, 0) := by
  have h1 := dst_gt (a := 3 * u) (b := u) (by omega)
  have h3 := dst_self (3 * u)
  have h7 := dst_lt (a := 3 * u) (b := 7 * u) (by omega)
  unfold nearF
  rw [h1, h3, h7]
  cases m
  · rw [if_neg Bool.false_ne_true, if_pos (by omega : 0 < 3 * u - u), if_neg (by omega), if_pos (by omega)]
  · rw [if_pos rfl, if_pos (by omega)]
theorem near_7 {u : Int} (hu : 1 ≤ u) : nearF (7 * u) u false = (7, 0) := by
  have h1 := dst_gt (a := 7 * u) (b := u) (by omega)
  have h3 := dst_gt (a := 7 * u) (b := 3 * u) (by omega)
  have h7 := dst_self (7 * u)
  unfold nearF
  rw [h1, h3, h7, if_neg Bool.false_ne_true, if_pos (by omega : 7 * u - 3 * u < 7 * u - u), if_pos (by omega)]
theorem rd_mark {u : Int} (hu : 1 ≤ u) (i : Nat) (hi : i % 2 = 0) (o c : List UInt8) (a : UInt8) (ha : a = 45 ∨ a = 46) (r : List Int) : rdS u i o c (mrk u a :: r) = rdS u (i + 1) o (c ++ [a]) r := by
  have hd : decide (i % 2 = 0) = true := decide_eq_true hi
  rw [rdS, hd, if_pos rfl]
  rcases ha with rfl | rfl
  · rw [show mrk u 45 = 3 * u from rfl, near_3 hu, if_neg (by decide)]
  · rw [show mrk u 46 = u from rfl, near_u hu, if_pos rfl]
theorem rd_gap1 {u : Int} (hu : 1 ≤ u) (i : Nat) (hi : i % 2 = 1) (o c : List UInt8) (r : List Int) : rdS u i o c (u :: r) = rdS u (i + 1) o c r := by
  have hd : decide (i % 2 = 0) = false := decide_eq_false (by omega)
  rw [rdS, hd, if_neg Bool.false_ne_true, near_u hu, if_neg (by decide), if_neg (by decide)]
theorem rd_gap3 {u : Int} (hu : 1 ≤ u) (i : Nat) (hi : i % 2 = 1) (o c : List UInt8) (r : List Int) : rdS u i o c (3 * u :: r) = rdS u (i + 1) (o ++ signL c) [] r := by
  have hd : decide (i % 2 = 0) = false := decide_eq_false (by omega)
  rw [rdS, hd, if_neg Bool.false_ne_true, near_3 hu, if_pos rfl]
theorem rd_gap7 {u : Int} (hu : 1 ≤ u) (i : Nat) (hi : i % 2 = 1) (o c : List UInt8) (r : List Int) : rdS u i o c (7 * u :: r) = rdS u (i + 1) (o ++ signL c ++ [32]) [] r := by
  have hd : decide (i % 2 = 0) = false := decide_eq_false (by omega)
  rw [rdS, hd, if_neg Bool.false_ne_true, near_7 hu, if_neg (by decide), if_pos rfl]
theorem rd_tailE {u : Int} (hu : 1 ≤ u) (o : List UInt8) (rest : List Int) : ∀ (q : List UInt8) (i : Nat) (c : List UInt8), i % 2 = 1 → (∀ x ∈ q, x = 45 ∨ x = 46) → ∃ j, j % 2 = 1 ∧ rdS u i o c (tailE u q ++ rest) = rdS u j o (c ++ q) rest
  | [], i, c, hi, _ => ⟨i, hi, by simp [tailE]⟩
  | a :: q, i, c, hi, h => by
    obtain ⟨j, hj, e⟩ := rd_tailE hu o rest q (i + 1 + 1) (c ++ [a]) (by omega) (fun x hx => h x (by simp [hx]))
    refine ⟨j, hj, ?_⟩
    have e2 : tailE u (a :: q) ++ rest = u :: mrk u a :: (tailE u q ++ rest) := rfl
    rw [e2, rd_gap1 hu i hi, rd_mark hu (i + 1) (by omega) o c a (h a (by simp)), e, List.append_assoc]
    rfl
theorem rd_elE {u : Int} (hu : 1 ≤ u) (o : List UInt8) (rest : List Int) (q : List UInt8) (hq : q ≠ []) (i : Nat) (hi : i % 2 = 0) (h : ∀ x ∈ q, x = 45 ∨ x = 46) : ∃ j, j % 2 = 1 ∧ rdS u i o [] (elE u q ++ rest) = rdS u j o q rest := by
  cases q with
  | nil => exact absurd rfl hq
  | cons a q =>
    obtain ⟨j, hj, e⟩ := rd_tailE hu o rest q (i + 1) [a] (by omega) (fun x hx => h x (by simp [hx]))
    refine ⟨j, hj, ?_⟩
    have e2 : elE u (a :: q) ++ rest = mrk u a :: (tailE u q ++ rest) := rfl
    rw [e2, rd_mark hu i hi o [] a (h a (by simp)), List.nil_append, e]
    rfl
/-- The text so far is o and the sign whose code is c. -/
theorem rd_tailW {u : Int} (hu : 1 ≤ u) (rest : List Int) : ∀ (w : List UInt8) (i : Nat) (o : List UInt8) (z : UInt8), i % 2 = 1 → isSign z = true → (∀ b ∈ w, isSign b = true) →
    ∃ j o' z', j % 2 = 1 ∧ isSign z' = true ∧ o' ++ [z'] = o ++ z :: w ∧ rdS u i o (codeL z) (tailW u u w ++ rest) = rdS u j o' (codeL z') rest
  | [], i, o, z, hi, hz, _ => ⟨i, o, z, hi, hz, rfl, by simp [tailW]⟩
  | b :: w, i, o, z, hi, hz, h => by
    have hb := h b (by simp)
    obtain ⟨j, hj, e⟩ := rd_elE hu (o ++ [z]) (tailW u u w ++ rest) (codeL b) ((code_facts b).1 hb) (i + 1) (by omega) (code_bytes b)
    obtain ⟨j2, o', z', hj2, hz', h2, e2⟩ := rd_tailW hu rest w j (o ++ [z]) b hj hb (fun x hx => h x (by simp [hx]))
    refine ⟨j2, o', z', hj2, hz', by rw [h2]; simp, ?_⟩
    have e3 : tailW u u (b :: w) ++ rest = 3 * u :: (elE u (codeL b) ++ (tailW u u w ++ rest)) := by simp [tailW]
    rw [e3, rd_gap3 hu i hi, sign_code z hz, e, e2]
theorem rd_elW {u : Int} (hu : 1 ≤ u) (rest : List Int) (w : List UInt8) (hw : w ≠ []) (i : Nat) (hi : i % 2 = 0) (o : List UInt8) (h : ∀ b ∈ w, isSign b = true) :
    ∃ j o' z', j % 2 = 1 ∧ isSign z' = true ∧ o' ++ [z'] = o ++ w ∧ rdS u i o [] (elW u u w ++ rest) = rdS u j o' (codeL z') rest := by
  cases w with
  | nil => exact absurd rfl hw
  | cons a w =>
    have ha := h a (by simp)
    obtain ⟨j, hj, e⟩ := rd_elE hu o (tailW u u w ++ rest) (codeL a) ((code_facts a).1 ha) i hi (code_bytes a)
    obtain ⟨j2, o', z', hj2, hz', h2, e2⟩ := rd_tailW hu rest w j o a hj ha (fun x hx => h x (by simp [hx]))
    refine ⟨j2, o', z', hj2, hz', h2, ?_⟩
    have e3 : elW u u (a :: w) ++ rest = elE u (codeL a) ++ (tailW u u w ++ rest) := by simp [elW]
    rw [e3, e, e2]
theorem rd_tailT {u : Int} (hu : 1 ≤ u) : ∀ (q : List (List UInt8)) (i : Nat) (o : List UInt8) (z : UInt8), i % 2 = 1 → isSign z = true → (∀ x ∈ q, x ≠ [] ∧ ∀ b ∈ x, isSign b = true) →
    rdS u i o (codeL z) (tailT u u q) = o ++ [z] ++ q.flatMap fun w => 32 :: w
  | [], i, o, z, hi, hz, _ => by simp [tailT, rdS, sign_code z hz]
  | w :: q, i, o, z, hi, hz, h => by
    obtain ⟨j, o', z', hj, hz', h2, e⟩ := rd_elW hu (tailT u u q) w (h w (by simp)).1 (i + 1) (by omega) (o ++ [z] ++ [32]) (h w (by simp)).2
    have ih := rd_tailT hu q j o' z' hj hz' (fun x hx => h x (by simp [hx]))
    have e3 : tailT u u (w :: q) = 7 * u :: (elW u u w ++ tailT u u q) := by simp [tailT]
    rw [e3, rd_gap7 hu i hi, sign_code z hz, e, ih, h2]
    simp
theorem joinSp_flat (w : List UInt8) (q : List (List UInt8)) : joinSp (w :: q) = w ++ q.flatMap fun x => 32 :: x := by
  induction q generalizing w with
  | nil => simp [joinSp]
  | cons x q ih =>
    show w ++ 32 :: joinSp (x :: q) = _
    rw [ih]
    simp
theorem read_back {u : Int} (hu : 1 ≤ u) (p : List UInt8) (h : ∀ x ∈ wordsOf p, x ≠ [] ∧ ∀ b ∈ x, isSign b = true) : readL u (elT u u (wordsOf p)) = p := by
  obtain ⟨w, q, hw⟩ := wordsOf_ne p
  have hj := joinSp_words p
  rw [hw] at h hj ⊢
  obtain ⟨j, o', z', hj1, hz', h2, e⟩ := rd_elW hu (tailT u u q) w (h w (by simp)).1 0 rfl [] (h w (by simp)).2
  have e3 : elT u u (w :: q) = elW u u w ++ tailT u u q := rfl
  unfold readL
  rw [e3, e, rd_tailT hu q j o' z' hj1 hz' (fun x hx => h x (by simp [hx])), h2, List.nil_append, ← joinSp_flat, hj]
/-! no deviation -/
def Even (u : Int) : Nat → List Int → Prop
  | _, [] => True
  | i, a :: r => (a = u ∨ a = 3 * u ∨ (a = 7 * u ∧ i % 2 = 1)) ∧ Even u (i + 1) r
theorem Even.app {u : Int} : ∀ {l m : List Int} {i : Nat}, Even u i l → Even u (i + l.length) m → Even u i (l ++ m)
  | [], m, i, _, h => by simpa using h
  | a :: l, m, i, h1, h2 => by
    rw [List.length_cons] at h2
    have e : i + 1 + l.length = i + (l.length + 1) := by omega
    rw [← e] at h2
    exact ⟨h1.1, Even.app h1.2 h2⟩
theorem Even.two {u : Int} : ∀ {l : List Int} {i : Nat}, (∀ x ∈ l, x = u ∨ x = 3 * u) → Even u i l
  | [], _, _ => trivial
  | a :: l, i, h => ⟨(h a (by simp)).elim .inl fun x => .inr (.inl x), Even.two fun x hx => h x (by simp [hx])⟩
theorem elE_two (u : Int) (c : List UInt8) : ∀ x ∈ elE u c, x = u ∨ x = 3 * u := by
  have hm : ∀ b, mrk u b = u ∨ mrk u b = 3 * u := fun b => by unfold mrk; split <;> omega
  cases c with
  | nil => intro x hx; cases hx
  | cons a r =>
    intro x hx
    rcases List.mem_cons.1 hx with rfl | hx
    · exact hm a
    · obtain ⟨b, _, hb⟩ := List.mem_flatMap.1 hx
      simp only [List.mem_cons, List.not_mem_nil, or_false] at hb
      rcases hb with rfl | rfl
      · exact .inl rfl
      · exact hm b
theorem elW_two (u : Int) (w : List UInt8) : ∀ x ∈ elW u u w, x = u ∨ x = 3 * u := by
  cases w with
  | nil => intro x hx; cases hx
  | cons a r =>
    intro x hx
    rcases List.mem_append.1 hx with hx | hx
    · exact elE_two u _ x hx
    · obtain ⟨b, _, hb⟩ := List.mem_flatMap.1 hx
      rcases List.mem_cons.1 hb with rfl | hb
      · exact .inr rfl
      · exact elE_two u _ x hb
theorem Even_tailT {u : Int} : ∀ (q : List (List UInt8)) (i : Nat), i % 2 = 1 → (∀ x ∈ q, x ≠ [] ∧ ∀ b ∈ x, isSign b = true) → Even u i (tailT u u q)
  | [], i, _, _ => trivial
  | w :: q, i, hi, h => by
    have e3 : tailT u u (w :: q) = 7 * u :: (elW u u w ++ tailT u u q) := by simp [tailT]
    have ho := elW_odd u u w (h w (by simp)).1 (h w (by simp)).2
    rw [e3]
    exact ⟨.inr (.inr ⟨rfl, hi⟩), Even.app (Even.two (elW_two u w)) (Even_tailT q _ (by omega) (fun x hx => h x (by simp [hx])))⟩
theorem Even_elT {u : Int} (W : List (List UInt8)) (h : ∀ x ∈ W, x ≠ [] ∧ ∀ b ∈ x, isSign b = true) : Even u 0 (elT u u W) := by
  cases W with
  | nil => trivial
  | cons w q =>
    have ho := elW_odd u u w (h w (by simp)).1 (h w (by simp)).2
    exact Even.app (Even.two (elW_two u w)) (Even_tailT q _ (by omega) (fun x hx => h x (by simp [hx])))
theorem Even_near {u a : Int} (hu : 1 ≤ u) {i : Nat} (h : a = u ∨ a = 3 * u ∨ (a = 7 * u ∧ i % 2 = 1)) : (nearF a u (decide (i % 2 = 0))).2 = 0 := by
  rcases h with rfl | rfl | ⟨rfl, hi⟩
  · rw [near_u hu]
  · rw [near_3 hu]
  · rw [show decide (i % 2 = 0) = false from decide_eq_false (by omega), near_7 hu]
theorem off_even {u : Int} (hu : 1 ≤ u) : ∀ (l : List Int) (i : Nat), Even u i l → offL u i l = 0
  | [], _, _ => rfl
  | a :: r, i, h => by
    rw [offL, off_even hu r (i + 1) h.2]
    unfold offA
    rw [Even_near hu h.1]
    rfl
theorem Even.at {u : Int} : ∀ {l : List Int} {i : Nat}, Even u i l → ∀ (j : Nat) (h : j < l.length), l[j] = u ∨ l[j] = 3 * u ∨ (l[j] = 7 * u ∧ (i + j) % 2 = 1)
  | a :: r, i, h, 0, _ => h.1
  | a :: r, i, h, j + 1, hj => by
    have := Even.at h.2 j (by simpa using hj)
    have e : i + 1 + j = i + (j + 1) := by omega
    rw [e] at this
    exact this
theorem Out_f {a lo hi : Int} (h : lo ≤ a ∧ a ≤ hi) : kit_Outside.f a lo hi = some false := by
  unfold kit_Outside.f
  rw [if_neg (by omega)]
  simp
  omega
end Go.EV.Pure
namespace Go.EV.Pure
open Go Go.EV Go.RowKit
set_option linter.unusedSimpArgs false
set_option linter.unusedVariables false
set_option maxRecDepth 100000
/-! How many steps one string is from another: row by row. -/
def lev (a b : Nat → Int) : Nat → Nat → Int
  | 0, j => (j : Int)
  | i + 1, 0 => ((i + 1 : Nat) : Int)
  | i + 1, j + 1 => mn (mn (lev a b i (j + 1) + 1) (lev a b (i + 1) j + 1)) (lev a b i j + if a i = b j then 0 else 1)
termination_by i j => (i, j)
def osa (a b : Nat → Int) : Nat → Nat → Int
  | 0, j => (j : Int)
  | i + 1, 0 => ((i + 1 : Nat) : Int)
  | i + 1, j + 1 => if 1 ≤ i ∧ 1 ≤ j ∧ a i = b (j - 1) ∧ a (i - 1) = b j
    then mn (mn (mn (osa a b i (j + 1) + 1) (osa a b (i + 1) j + 1)) (osa a b i j + if a i = b j then 0 else 1)) (osa a b (i - 1) (j - 1) + 1)
    else mn (mn (osa a b i (j + 1) + 1) (osa a b (i + 1) j + 1)) (osa a b i j + if a i = b j then 0 else 1)
termination_by i j => (i, j)
theorem mn_le (a b : Int) : mn a b ≤ a ∧ mn a b ≤ b ∧ (mn a b = a ∨ mn a b = b) := by rw [mn_eq]; split <;> omega
theorem lev_bd (a b : Nat → Int) : ∀ n i j, i + j ≤ n → 0 ≤ lev a b i j ∧ lev a b i j ≤ (i : Int) + j := by
  intro n
  induction n with
  | zero => intro i j h; obtain rfl : i = 0 := by omega
            rw [lev]; omega
  | succ n ih =>
    intro i j h
    cases i with
    | zero => rw [lev]; omega
    | succ i =>
      cases j with
      | zero => rw [lev]; omega
      | succ j =>
        have h1 := ih i (j + 1) (by omega)
        have h2 := ih (i + 1) j (by omega)
        have h3 := ih i j (by omega)
        rw [lev]
        have m1 := mn_le (lev a b i (j + 1) + 1) (lev a b (i + 1) j + 1)
        have m2 := mn_le (mn (lev a b i (j + 1) + 1) (lev a b (i + 1) j + 1)) (lev a b i j + if a i = b j then 0 else 1)
        split at m2 <;> rename_i c <;> simp only [c, if_true, if_false] at m2 ⊢ <;> omega
theorem osa_bd (a b : Nat → Int) : ∀ n i j, i + j ≤ n → 0 ≤ osa a b i j ∧ osa a b i j ≤ (i : Int) + j := by
  intro n
  induction n with
  | zero => intro i j h; obtain rfl : i = 0 := by omega
            rw [osa]; omega
  | succ n ih =>
    intro i j h
    cases i with
    | zero => rw [osa]; omega
    | succ i =>
      cases j with
      | zero => rw [osa]; omega
      | succ j =>
        have h1 := ih i (j + 1) (by omega)
        have h2 := ih (i + 1) j (by omega)
        have h3 := ih i j (by omega)
        have h4 := ih (i - 1) (j - 1) (by omega)
        have m1 := mn_le (osa a b i (j + 1) + 1) (osa a b (i + 1) j + 1)
        have hc : (if a i = b j then (0 : Int) else 1) = 0 ∨ (if a i = b j then (0 : Int) else 1) = 1 := by split <;> simp
        rw [osa]
        generalize (if a i = b j then (0 : Int) else 1) = c at hc ⊢
        have m2 := mn_le (mn (osa a b i (j + 1) + 1) (osa a b (i + 1) j + 1)) (osa a b i j + c)
        have m3 := mn_le (mn (mn (osa a b i (j + 1) + 1) (osa a b (i + 1) j + 1)) (osa a b i j + c)) (osa a b (i - 1) (j - 1) + 1)
        split <;> omega
theorem rd_set (o : List Int) (j m : Nat) (v : Int) (h : j < o.length) : rd (o.set j v) (m : Int) = if j = m then v else rd o (m : Int) := by
  unfold rd
  simp only [Int.toNat_natCast, List.getD]
  by_cases c : j = m
  · subst c; rw [if_pos rfl, List.getElem?_set_self h]; rfl
  · rw [if_neg c, List.getElem?_set_ne c]
/-- The first m of a row of n + 1. -/
def Part (D : Nat → Int) (n m : Nat) (o : List Int) : Prop := o.length = n + 1 ∧ ∀ j : Nat, j < m → rd o (j : Int) = D j
theorem Part.set {D : Nat → Int} {n m : Nat} {o : List Int} (h : Part D n m o) (hm : m ≤ n) {v : Int} (hv : v = D m) : Part D n (m + 1) (o.set m v) := by
  refine ⟨by rw [List.length_set]; exact h.1, fun j hj => ?_⟩
  rw [rd_set o m j v (by rw [h.1]; omega)]
  by_cases c : m = j
  · rw [if_pos c, hv, c]
  · rw [if_neg c]; exact h.2 j (by omega)
theorem rep_len (n : Nat) (hn : n ≤ 1000000) : (wrap64 ((n : Int) + 1)).toNat = n + 1 := by rw [wrap_id (by omega) (by omega)]; omega
theorem ks_row (p q : ByteArray) (hp : p.size ≤ 1000) (hq : q.size ≤ 1000) (i : Nat) (hi : i < p.size) (x : List Int) (hx : Part (fun j => lev (fun i => bt p i) (fun j => bt q j) i j) q.size (q.size + 1) x) (v : Int)
    (hk : ∀ o, Part (fun j => lev (fun i => bt p i) (fun j => bt q j) (i + 1) j) q.size (q.size + 1) o → Ev (fun k => key_steps.l1 k p q o ((i + 1 : Nat) : Int)) v) (d : Nat) :
    ∀ (j : Nat) (o : List Int), j + d = q.size → Part (fun j => lev (fun i => bt p i) (fun j => bt q j) (i + 1) j) q.size (j + 1) o → Ev (fun k => key_steps.l2 k p q x (i : Int) (j : Int) o) v := by
  generalize hA : (fun i : Nat => bt p (i : Int)) = A at hx hk ⊢
  generalize hB : (fun j : Nat => bt q (j : Int)) = B at hx hk ⊢
  have hAi : bt p (i : Int) = A i := by rw [← hA]
  induction d with
  | zero =>
    intro j o hj ho
    refine Ev.succ ?_
    simp only [key_steps.l2, wrap_succ (show i ≤ 1000000000000000 by omega)]
    obtain rfl : j = q.size := by omega
    exact Ev.neg (by omega) (hk o ho)
  | succ d ih =>
    intro j o hj ho
    have hBj : bt q (j : Int) = B j := by rw [← hB]
    have b1 := lev_bd A B _ i j (Nat.le_refl _)
    have b2 := lev_bd A B _ i (j + 1) (Nat.le_refl _)
    have b3 := lev_bd A B _ (i + 1) j (Nat.le_refl _)
    have x1 : rd x (j : Int) = lev A B i j := hx.2 j (by omega)
    have x2 : rd x ((j + 1 : Nat) : Int) = lev A B i (j + 1) := hx.2 (j + 1) (by omega)
    have o1 : rd o (j : Int) = lev A B (i + 1) j := ho.2 j (by omega)
    have xl := hx.1
    have ol := ho.1
    have key : ∀ c : Int, c = (if A i = B j then 0 else 1) → Ev (fun k => key_steps.j18 k p q x (i : Int) (j : Int) o c) v := fun c hc => by
      have hc2 : 0 ≤ c ∧ c ≤ 1 := by rw [hc]; split <;> omega
      have hset := ho.set (show j + 1 ≤ q.size by omega) (v := mn (mn (lev A B i (j + 1) + 1) (lev A B (i + 1) j + 1)) (lev A B i j + c)) (by rw [lev, hc])
      refine Ev.succ ?_
      simp only [key_steps.j18, wrap_succ (show j ≤ 1000000000000000 by omega), x1, x2, o1, Int.toNat_natCast, wrap_id (e := lev A B i (j + 1) + 1) (by omega) (by omega), wrap_id (e := lev A B (i + 1) j + 1) (by omega) (by omega), wrap_id (e := lev A B i j + c) (by omega) (by omega)]
      exact Ev.pos (by omega) (Ev.pos (by omega) (Ev.pos (by omega) (Ev.pos (by omega) (Ev.pos (by omega) (Ev.pos (by omega) (Ev.pos (by omega) (Ev.pos (by omega) (ih (j + 1) _ (by omega) hset))))))))
    refine Ev.succ ?_
    simp only [key_steps.l2, hAi, hBj]
    refine Ev.pos (by omega) (Ev.pos (by omega) (Ev.pos (by omega) (Ev.pos (by omega) (Ev.pos (by omega) (Ev.ite (fun c => key 0 ?_) (fun c => key 1 ?_))))))
    · rw [if_pos c]
    · rw [if_neg c]
theorem ks_rows (p q : ByteArray) (hp : p.size ≤ 1000) (hq : q.size ≤ 1000) (d : Nat) :
    ∀ (i : Nat) (x : List Int), i + d = p.size → Part (fun j => lev (fun i => bt p i) (fun j => bt q j) i j) q.size (q.size + 1) x → Ev (fun k => key_steps.l1 k p q x (i : Int)) (lev (fun i => bt p i) (fun j => bt q j) p.size q.size) := by
  induction d with
  | zero =>
    intro i x hi hx
    obtain rfl : i = p.size := by omega
    have xl := hx.1
    refine Ev.succ ?_
    simp only [key_steps.l1, hx.2 q.size (by omega)]
    exact Ev.neg (by omega) (Ev.pos (by omega) (Ev.pos (by omega) (Ev.now _)))
  | succ d ih =>
    intro i x hi hx
    refine Ev.succ ?_
    simp only [key_steps.l1, rep_len q.size (by omega), wrap_succ (show i ≤ 1000000000000000 by omega), List.length_replicate]
    refine Ev.pos (by omega) (Ev.pos (by rw [wrap_id (by omega) (by omega)]; omega) (Ev.pos (by rw [wrap_id (by omega) (by omega)]; omega) (Ev.pos (by omega) ?_)))
    refine ks_row p q hp hq i (by omega) x hx _ (fun o ho => ih (i + 1) o (by omega) ho) q.size 0 _ (by omega) ?_
    exact Part.set (m := 0) ⟨by simp, fun j hj => by omega⟩ (by omega) (by rw [lev])
theorem steps_ev (p q : ByteArray) (hp : p.size ≤ 1000) (hq : q.size ≤ 1000) : Ev (fun k => key_steps.f k p q) (lev (fun i => bt p i) (fun j => bt q j) p.size q.size) := by
  have run : ∀ (d i : Nat) (o : List Int), i + d = q.size + 1 → Part (fun j => lev (fun i => bt p i) (fun j => bt q j) 0 j) q.size i o → Ev (fun k => key_steps.l0 k p q (i : Int) o) (lev (fun i => bt p i) (fun j => bt q j) p.size q.size) := by
    intro d
    induction d with
    | zero =>
      intro i o hi ho
      obtain rfl : i = q.size + 1 := by omega
      refine Ev.succ ?_
      simp only [key_steps.l0, rep_len q.size (by omega), List.length_replicate]
      exact Ev.neg (by omega) (ks_rows p q hp hq p.size 0 o (by omega) ho)
    | succ d ih =>
      intro i o hi ho
      have ol := ho.1
      refine Ev.succ ?_
      simp only [key_steps.l0, rep_len q.size (by omega), List.length_replicate, wrap_succ (show i ≤ 1000000000000000 by omega), Int.toNat_natCast]
      exact Ev.pos (by omega) (Ev.pos (by omega) (Ev.pos (by omega) (ih (i + 1) _ (by omega) (ho.set (by omega) (by rw [lev])))))
  unfold key_steps.f
  refine Ev.pos (by rw [wrap_id (by omega) (by omega)]; omega) (Ev.pos (by rw [wrap_id (by omega) (by omega)]; omega) ?_)
  rw [rep_len q.size (by omega)]
  exact run (q.size + 1) 0 _ (by omega) ⟨by simp, fun j hj => by omega⟩
/-! steps of call signs -/
theorem cs_row (p q : ByteArray) (hp : p.size ≤ 1000) (hq : q.size ≤ 1000) (i : Nat) (hi : i ≤ p.size) (x0 x1 x2 : List Int)
    (hx2 : 1 ≤ i → Part (fun j => osa (fun i => bt p i) (fun j => bt q j) (i - 1) j) q.size (q.size + 1) x2) (hx1 : 2 ≤ i → Part (fun j => osa (fun i => bt p i) (fun j => bt q j) (i - 2) j) q.size (q.size + 1) x1) (v : Int)
    (hk : ∀ o, Part (fun j => osa (fun i => bt p i) (fun j => bt q j) i j) q.size (q.size + 1) o → Ev (fun k => call_Steps.l0 k p q ((i + 1 : Nat) : Int) x1 x2 o) v) (d : Nat) :
    ∀ (j : Nat) (o : List Int), j + d = q.size + 1 → Part (fun j => osa (fun i => bt p i) (fun j => bt q j) i j) q.size j o → Ev (fun k => call_Steps.l1 k p q (i : Int) x0 x1 x2 (j : Int) o) v := by
  generalize hA : (fun i : Nat => bt p (i : Int)) = A at hx1 hx2 hk ⊢
  generalize hB : (fun j : Nat => bt q (j : Int)) = B at hx1 hx2 hk ⊢
  have hAi : ∀ i : Nat, bt p (i : Int) = A i := fun i => by rw [← hA]
  have hBj : ∀ j : Nat, bt q (j : Int) = B j := fun i => by rw [← hB]
  induction d with
  | zero =>
    intro j o hj ho
    refine Ev.succ ?_
    simp only [call_Steps.l1, wrap_succ (show i ≤ 1000000000000000 by omega), rep_len q.size (by omega), List.length_replicate]
    obtain rfl : j = q.size + 1 := by omega
    exact Ev.neg (by omega) (hk o ho)
  | succ d ih =>
    intro j o hj ho
    have ol := ho.1
    have hw := wrap_succ (show j ≤ 1000000000000000 by omega)
    have next : ∀ o', Part (fun j => osa A B i j) q.size (j + 1) o' → Ev (fun k => call_Steps.j19 k p q (i : Int) x0 x1 x2 (j : Int) o') v := fun o' h => Ev.step (fun k => by simp only [call_Steps.j19, hw]) (ih (j + 1) o' (by omega) h)
    refine Ev.succ ?_
    simp only [call_Steps.l1, rep_len q.size (by omega), List.length_replicate, Int.toNat_natCast]
    refine Ev.pos (by omega) (Ev.ite (fun c0 => ?_) (fun c0 => ?_))
    · obtain rfl : i = 0 := by omega
      exact Ev.pos (by omega) (Ev.pos (by omega) (next _ (ho.set (by omega) (by rw [osa]))))
    · obtain ⟨i', rfl⟩ : ∃ i', i = i' + 1 := ⟨i - 1, by omega⟩
      refine Ev.ite (fun c1 => ?_) (fun c1 => ?_)
      · obtain rfl : j = 0 := by omega
        exact Ev.pos (by omega) (Ev.pos (by omega) (next _ (ho.set (by omega) (by rw [osa]))))
      · obtain ⟨j', rfl⟩ : ∃ j', j = j' + 1 := ⟨j - 1, by omega⟩
        have hx2' := hx2 (by omega)
        rw [Nat.add_sub_cancel] at hx2'
        have wi : wrap64 (((i' + 1 : Nat) : Int) - 1) = (i' : Int) := by rw [wrap_id (by omega) (by omega)]; omega
        have wj : wrap64 (((j' + 1 : Nat) : Int) - 1) = (j' : Int) := by rw [wrap_id (by omega) (by omega)]; omega
        have b1 := osa_bd A B _ i' j' (Nat.le_refl _)
        have b2 := osa_bd A B _ i' (j' + 1) (Nat.le_refl _)
        have b3 := osa_bd A B _ (i' + 1) j' (Nat.le_refl _)
        have e1 : rd x2 (j' : Int) = osa A B i' j' := hx2'.2 j' (by omega)
        have e2 : rd x2 ((j' + 1 : Nat) : Int) = osa A B i' (j' + 1) := hx2'.2 (j' + 1) (by omega)
        have e3 : rd o (j' : Int) = osa A B (i' + 1) j' := ho.2 j' (by omega)
        have x2l := hx2'.1
        have key : ∀ c : Int, c = (if A i' = B j' then 0 else 1) → Ev (fun k => call_Steps.j16 k p q ((i' + 1 : Nat) : Int) x0 x1 x2 ((j' + 1 : Nat) : Int) o c) v := fun c hc => by
          have hc2 : 0 ≤ c ∧ c ≤ 1 := by rw [hc]; split <;> omega
          have w1 := wrap_id (e := osa A B i' (j' + 1) + 1) (by omega) (by omega)
          have w2 := wrap_id (e := osa A B (i' + 1) j' + 1) (by omega) (by omega)
          have w3 := wrap_id (e := osa A B i' j' + c) (by omega) (by omega)
          generalize hM : mn (mn (osa A B i' (j' + 1) + 1) (osa A B (i' + 1) j' + 1)) (osa A B i' j' + c) = M
          have plainC : ¬ (1 ≤ i' ∧ 1 ≤ j' ∧ A i' = B (j' - 1) ∧ A (i' - 1) = B j') → Part (fun j => osa A B (i' + 1) j) q.size (j' + 1 + 1) (o.set (j' + 1) M) := fun hn => ho.set (by omega) (by rw [osa, if_neg hn, ← hc, hM])
          have nextP := fun hn => next _ (plainC hn)
          refine Ev.succ ?_
          simp only [call_Steps.j16, wi, wj, e1, e2, e3, w1, w2, w3, hM, Int.toNat_natCast]
          refine Ev.pos (by omega) (Ev.pos (by omega) (Ev.pos (by omega) (Ev.pos (by omega) (Ev.pos (by omega) (Ev.pos (by omega) (Ev.pos (by omega) (Ev.pos (by omega) ?_)))))))
          refine Ev.ite (fun c3 => ?_) (fun c3 => nextP (fun h => c3 (by omega)))
          refine Ev.ite (fun c4 => ?_) (fun c4 => nextP (fun h => c4 (by omega)))
          obtain ⟨i2, rfl⟩ : ∃ i2, i' = i2 + 1 := ⟨i' - 1, by omega⟩
          obtain ⟨j2, rfl⟩ : ∃ j2, j' = j2 + 1 := ⟨j' - 1, by omega⟩
          have wi2 : wrap64 (((i2 + 1 + 1 : Nat) : Int) - 2) = (i2 : Int) := by rw [wrap_id (by omega) (by omega)]; omega
          have wj2 : wrap64 (((j2 + 1 + 1 : Nat) : Int) - 2) = (j2 : Int) := by rw [wrap_id (by omega) (by omega)]; omega
          have hx1' := hx1 (by omega)
          rw [show i2 + 1 + 1 - 2 = i2 from by omega] at hx1'
          have x1l := hx1'.1
          have e4 : rd x1 (j2 : Int) = osa A B i2 j2 := hx1'.2 j2 (by omega)
          have b4 := osa_bd A B _ i2 j2 (Nat.le_refl _)
          have w4 := wrap_id (e := osa A B i2 j2 + 1) (by omega) (by omega)
          have e5 : rd (o.set (j2 + 1 + 1) M) ((j2 + 1 + 1 : Nat) : Int) = M := by rw [rd_set o _ _ _ (by omega), if_pos rfl]
          simp only [wi2, wj2, hAi, hBj, e4, w4, e5]
          have n1 : i2 + 1 - 1 = i2 := rfl
          have n2 : j2 + 1 - 1 = j2 := rfl
          refine Ev.pos (by omega) (Ev.pos (by omega) (Ev.pos (by omega) (Ev.pos (by omega) (Ev.ite (fun c5 => ?_) (fun c5 => nextP (fun h => c5 h.2.2.1))))))
          refine Ev.pos (by omega) (Ev.pos (by omega) (Ev.pos (by omega) (Ev.pos (by omega) (Ev.ite (fun c6 => ?_) (fun c6 => nextP (fun h => c6 h.2.2.2))))))
          have hsl : (o.set (j2 + 1 + 1) M).length = o.length := List.length_set
          refine Ev.pos (by omega) (Ev.pos (by omega) (Ev.pos (by omega) (Ev.pos (by omega) (Ev.pos (by omega) (Ev.pos (by omega) (next _ ?_))))))
          rw [List.set_set]
          refine ho.set (by omega) ?_
          rw [osa, if_pos ⟨by omega, by omega, c5, c6⟩, ← hc, hM]
          rfl
        refine Ev.pos (by omega) (Ev.pos (by omega) (Ev.pos (by omega) (Ev.pos (by omega) ?_)))
        simp only [wi, wj, hAi, hBj]
        refine Ev.ite (fun c => key 0 ?_) (fun c => key 1 ?_)
        · rw [if_pos c]
        · rw [if_neg c]
theorem cSteps_ev (p q : ByteArray) (hp : p.size ≤ 1000) (hq : q.size ≤ 1000) : Ev (fun k => call_Steps.f k p q) (osa (fun i => bt p i) (fun j => bt q j) p.size q.size) := by
  have run : ∀ (d i : Nat) (x0 x1 x2 : List Int), i + d = p.size + 1 → (1 ≤ i → Part (fun j => osa (fun i => bt p i) (fun j => bt q j) (i - 1) j) q.size (q.size + 1) x2) → (2 ≤ i → Part (fun j => osa (fun i => bt p i) (fun j => bt q j) (i - 2) j) q.size (q.size + 1) x1) →
      Ev (fun k => call_Steps.l0 k p q (i : Int) x0 x1 x2) (osa (fun i => bt p i) (fun j => bt q j) p.size q.size) := by
    intro d
    induction d with
    | zero =>
      intro i x0 x1 x2 hi h2 h1
      obtain rfl : i = p.size + 1 := by omega
      have h2 := h2 (by omega)
      rw [Nat.add_sub_cancel] at h2
      have x2l := h2.1
      refine Ev.succ ?_
      simp only [call_Steps.l0, h2.2 q.size (by omega), wrap_succ (show p.size ≤ 1000000000000000 by omega)]
      exact Ev.neg (by omega) (Ev.pos (by omega) (Ev.pos (by omega) (Ev.now _)))
    | succ d ih =>
      intro i x0 x1 x2 hi h2 h1
      refine Ev.succ ?_
      simp only [call_Steps.l0, rep_len q.size (by omega), wrap_succ (show p.size ≤ 1000000000000000 by omega), wrap_succ (show q.size ≤ 1000000000000000 by omega)]
      refine Ev.pos (by omega) (Ev.pos (by omega) (Ev.pos (by omega) ?_))
      exact cs_row p q hp hq i (by omega) x0 x1 x2 h2 h1 _ (fun o ho => ih (i + 1) x1 x2 o (by omega) (fun _ => by rw [Nat.add_sub_cancel]; exact ho) (fun h => h2 (by omega))) (q.size + 1) 0 _ (by omega) ⟨by simp, fun j hj => by omega⟩
  unfold call_Steps.f
  exact run (p.size + 1) 0 [] [] [] (by omega) (fun h => by omega) (fun h => by omega)
/-! what the steps tell -/
theorem osa_zero (a b : Nat → Int) : ∀ n i j, i + j ≤ n → osa a b i j = 0 → i = j ∧ ∀ m, m < i → a m = b m := by
  intro n
  induction n with
  | zero => intro i j h _; exact ⟨by omega, fun m hm => by omega⟩
  | succ n ih =>
    intro i j h h0
    cases i with
    | zero => rw [osa] at h0; exact ⟨by omega, fun m hm => by omega⟩
    | succ i =>
      cases j with
      | zero => rw [osa] at h0; omega
      | succ j =>
        have h1 := osa_bd a b _ i (j + 1) (Nat.le_refl _)
        have h2 := osa_bd a b _ (i + 1) j (Nat.le_refl _)
        have h3 := osa_bd a b _ i j (Nat.le_refl _)
        have h4 := osa_bd a b _ (i - 1) (j - 1) (Nat.le_refl _)
        have m1 := mn_le (osa a b i (j + 1) + 1) (osa a b (i + 1) j + 1)
        rw [osa] at h0
        have hz : osa a b i j = 0 ∧ a i = b j := by
          by_cases c : a i = b j
          · rw [if_pos c] at h0
            have m2 := mn_le (mn (osa a b i (j + 1) + 1) (osa a b (i + 1) j + 1)) (osa a b i j + 0)
            have m3 := mn_le (mn (mn (osa a b i (j + 1) + 1) (osa a b (i + 1) j + 1)) (osa a b i j + 0)) (osa a b (i - 1) (j - 1) + 1)
            refine ⟨?_, c⟩
            split at h0 <;> omega
          · rw [if_neg c] at h0
            have m2 := mn_le (mn (osa a b i (j + 1) + 1) (osa a b (i + 1) j + 1)) (osa a b i j + 1)
            have m3 := mn_le (mn (mn (osa a b i (j + 1) + 1) (osa a b (i + 1) j + 1)) (osa a b i j + 1)) (osa a b (i - 1) (j - 1) + 1)
            exfalso
            split at h0 <;> omega
        obtain ⟨e, hm⟩ := ih i j (by omega) hz.1
        refine ⟨by omega, fun m hm2 => ?_⟩
        by_cases c : m = i
        · rw [c, hz.2, e]
        · exact hm m (by omega)
theorem osa_diag (a b : Nat → Int) (i : Nat) : osa a b (i + 1) (i + 1) ≤ osa a b i i + if a i = b i then 0 else 1 := by
  have m1 := mn_le (osa a b i (i + 1) + 1) (osa a b (i + 1) i + 1)
  have m2 := mn_le (mn (osa a b i (i + 1) + 1) (osa a b (i + 1) i + 1)) (osa a b i i + if a i = b i then 0 else 1)
  have m3 := mn_le (mn (mn (osa a b i (i + 1) + 1) (osa a b (i + 1) i + 1)) (osa a b i i + if a i = b i then 0 else 1)) (osa a b (i - 1) (i - 1) + 1)
  rw [osa]
  generalize (if a i = b i then (0 : Int) else 1) = c at m2 m3 ⊢
  split <;> omega
/-- One byte is another one: one step. -/
theorem osa_one (a b : Nat → Int) (n c : Nat) (hc : c < n) (hne : a c ≠ b c) (h : ∀ m, m < n → m ≠ c → a m = b m) : osa a b n n = 1 := by
  have hle : ∀ i, i ≤ n → osa a b i i ≤ if c < i then 1 else 0 := by
    intro i
    induction i with
    | zero => intro _; rw [osa]; simp
    | succ i ih =>
      intro hi
      have h1 := osa_diag a b i
      have h2 := ih (by omega)
      by_cases e : i = c
      · subst e
        rw [if_neg (by omega)] at h2
        rw [if_neg hne] at h1
        rw [if_pos (by omega)]
        omega
      · rw [if_pos (h i (by omega) e)] at h1
        by_cases e2 : c < i
        · rw [if_pos e2] at h2; rw [if_pos (by omega)]; omega
        · rw [if_neg e2] at h2; rw [if_neg (by omega)]; omega
  have h1 := hle n (Nat.le_refl _)
  rw [if_pos hc] at h1
  have h2 := (osa_bd a b _ n n (Nat.le_refl _)).1
  have h3 : osa a b n n ≠ 0 := fun h0 => hne ((osa_zero a b _ n n (Nat.le_refl _) h0).2 c hc)
  omega
end Go.EV.Pure
namespace Go.EV.Pure
open Go Go.EV Go.RowKit
set_option linter.unusedSimpArgs false
set_option maxRecDepth 100000
/-! Call signs: the program's parts and the document's parts are the same. -/
def isL (b : UInt8) : Bool := decide (97 ≤ b.toNat ∧ b.toNat ≤ 122)
def isD (b : UInt8) : Bool := decide (48 ≤ b.toNat ∧ b.toNat ≤ 57)
def AN (p : List UInt8) : Bool := p.all fun b => isL b || isD b
def nL (p : List UInt8) : Nat := p.countP isL
def digL : List UInt8 := [48, 49, 50, 51, 52, 53, 54, 55, 56, 57]
def smaL : List UInt8 := [97, 98, 99, 100, 101, 102, 103, 104, 105, 106, 107, 108, 109, 110, 111, 112, 113, 114, 115, 116, 117, 118, 119, 120, 121, 122]
theorem has_dig : ∀ b : UInt8, digL.contains b = isD b := all_bytes (by decide +kernel)
theorem has_sma : ∀ b : UInt8, smaL.contains b = isL b := all_bytes (by decide +kernel)
theorem has_both : ∀ b : UInt8, (smaL ++ digL).contains b = (isL b || isD b) := all_bytes (by decide +kernel)
theorem str0_eq : str_0 = mk (smaL ++ digL) := rfl
theorem str1_eq : str_1 = mk smaL := rfl
theorem AN_ascii {p : List UInt8} (h : AN p = true) : asciiT (mk p) = true := by
  rw [mk_ascii]
  rw [AN, List.all_eq_true] at h
  rw [List.all_eq_true]
  intro b hb
  have := h b hb
  simp only [isL, isD, Bool.or_eq_true, decide_eq_true_eq] at this
  simp only [decide_eq_true_eq]
  omega
theorem indexAny_has (cs : List UInt8) : ∀ p : List UInt8, decide (Lib.indexAny p cs ≥ 0) = p.any (cs.contains ·)
  | [] => rfl
  | b :: l => by
    have ih := indexAny_has cs l
    have hg := Lib.indexAny_ge cs l
    rw [List.any_cons, ← ih, Lib.indexAny]
    by_cases c : cs.contains b = true
    · rw [if_pos c, c]; rfl
    · rw [if_neg c]
      have c : cs.contains b = false := by simpa using c
      rw [c, Bool.false_or]
      by_cases d : Lib.indexAny l cs = -1
      · rw [d]; rfl
      · have : (Lib.indexAny l cs == -1) = false := by simpa using d
        rw [this]
        simp only [Bool.false_eq_true, if_false]
        rw [decide_eq_decide]
        omega
theorem any_isL (p : List UInt8) : p.any isL = decide (0 < nL p) := by
  rw [Bool.eq_iff_iff, List.any_eq_true, decide_eq_true_eq, nL, List.countP_pos_iff]
theorem ca_eq (p : List UInt8) (hp : p.length < 4294967281) (h : asciiT (mk p) = true) : strings_ContainsAny.f (mk p) str_1 = some (decide (0 < nL p)) := by
  have hs : asciiT str_1 = true := by decide +kernel
  have hz : str_1.size < 4294967281 := by decide +kernel
  unfold strings_ContainsAny.f strings_IndexAny.f
  rw [if_pos ⟨⟨by rw [mk_size]; exact hp, hz⟩, h, hs⟩, Option.bind_some, mk_data, str1_eq, mk_data, indexAny_has, ← any_isL]
  congr 2
  funext b
  exact has_sma b
theorem in_eq (a lo hi : Int) : pileref1_in.f a lo hi = some (decide (lo ≤ a) && decide (a ≤ hi)) := by
  unfold pileref1_in.f
  by_cases c : lo ≤ a
  · rw [if_pos c]; simp [c]
  · rw [if_neg c]; simp [c]
theorem plain_eq (p : List UInt8) (lo hi : Int) (hp : p.length < 4294967281) : pileref1_plain.f (mk p) lo hi = some (decide (lo ≤ (p.length : Int)) && decide ((p.length : Int) ≤ hi) && AN p && decide (0 < nL p)) := by
  unfold pileref1_plain.f
  rw [in_eq, Option.bind_some, mk_size]
  by_cases c : (decide (lo ≤ (p.length : Int)) && decide ((p.length : Int) ≤ hi)) = true
  · rw [if_pos c, c, Bool.true_and]
    have hs : asciiT str_0 = true := by decide +kernel
    have hz : str_0.size < 4294967281 := by decide +kernel
    have ht : strings_Trim.f (mk p) str_0 = some (mk (Lib.trimS p (smaL ++ digL))) := by
      unfold strings_Trim.f
      rw [if_pos ⟨by rw [mk_size]; omega, hz, hs⟩, mk_data, str0_eq, mk_data]
      rfl
    rw [ht, Option.bind_some]
    have hn : mk (Lib.trimS p (smaL ++ digL)) = (⟨#[]⟩ : ByteArray) ↔ AN p = true := by
      have : (⟨#[]⟩ : ByteArray) = mk [] := rfl
      rw [this, mk_inj, trimS_nil, AN, List.all_eq_true]
      constructor
      · intro h b hb; rw [← has_both]; exact h b hb
      · intro h b hb; rw [has_both]; exact h b hb
    by_cases d : AN p = true
    · rw [if_pos (hn.2 d), ca_eq p hp (AN_ascii d), d]
      rfl
    · rw [if_neg (fun h => d (hn.1 h))]
      have : AN p = false := by simpa using d
      rw [this]
      rfl
  · rw [if_neg c]
    have : (decide (lo ≤ (p.length : Int)) && decide ((p.length : Int) ≤ hi)) = false := by simpa using c
    rw [this]
    rfl
theorem isL_eq (b : UInt8) : call_isLetter.f (b.toNat : Int) = some (isL b) := by
  unfold call_isLetter.f isL
  by_cases c : (b.toNat : Int) ≥ 97
  · rw [if_pos c]
    congr 1
    rw [decide_eq_decide]
    omega
  · rw [if_neg c]
    congr 1
    rw [eq_comm, decide_eq_false_iff_not]
    omega
theorem isD_eq (b : UInt8) : call_isDigit.f (b.toNat : Int) = some (isD b) := by
  unfold call_isDigit.f isD
  by_cases c : (b.toNat : Int) ≥ 48
  · rw [if_pos c]
    congr 1
    rw [decide_eq_decide]
    omega
  · rw [if_neg c]
    congr 1
    rw [eq_comm, decide_eq_false_iff_not]
    omega
theorem isPlain_ev (p : List UInt8) (hp : p.length ≤ 1000000) : Ev (fun k => call_isPlain.f k (mk p)) (if AN p = true then ((nL p : Int), true) else (0, false)) := by
  obtain ⟨v, hv, he⟩ := loop p (fun k i (x : Int) => call_isPlain.l0 k (mk p) x i)
    (fun i x => AN (p.take i) = true ∧ x = (nL (p.take i) : Int)) (fun v => v = if AN p = true then ((nL p : Int), true) else (0, false))
    (fun i x hi ⟨i1, i2⟩ => by
      have hb := mk_bt p i hi
      have hs := mk_size p
      have ht : p.take (i + 1) = p.take i ++ [p[i]] := List.take_succ_eq_append_getElem hi
      have hc : nL (p.take (i + 1)) = nL (p.take i) + (if isL p[i] = true then 1 else 0) := by
        rw [ht]; unfold nL; rw [List.countP_append, List.countP_cons, List.countP_nil]; simp
      have hle : nL (p.take i) ≤ p.length := Nat.le_trans List.countP_le_length (by simp; omega)
      have ha : AN (p.take (i + 1)) = (isL p[i] || isD p[i]) := by
        rw [ht]; unfold AN; rw [List.all_append, List.all_cons, List.all_nil]
        unfold AN at i1; rw [i1]; simp
      by_cases c : isL p[i] = true
      · refine .inl ⟨x + 1, ⟨by rw [ha, c]; rfl, by rw [hc, if_pos c, i2]; omega⟩, fun v hv => Ev.succ ?_⟩
        simp only [call_isPlain.l0, hb, hs, isL_eq, Option.bind_some]
        refine Ev.pos (by omega) (Ev.pos (by omega) (Ev.pos (by omega) (Ev.pos c (Ev.succ ?_))))
        simp only [call_isPlain.j8, wrap_succ (show i ≤ 1000000000000000 by omega), wrap_id (e := x + 1) (by omega) (by omega)]
        exact hv
      · have cf : isL p[i] = false := by simpa using c
        by_cases d : isD p[i] = true
        · refine .inl ⟨x, ⟨by rw [ha, d]; simp, by rw [hc, if_neg c, i2]; simp⟩, fun v hv => Ev.succ ?_⟩
          simp only [call_isPlain.l0, hb, hs, isL_eq, isD_eq, Option.bind_some]
          refine Ev.pos (by omega) (Ev.pos (by omega) (Ev.pos (by omega) (Ev.neg c (Ev.pos (by omega) (Ev.pos (by omega) (Ev.pos d (Ev.succ ?_)))))))
          simp only [call_isPlain.j8, wrap_succ (show i ≤ 1000000000000000 by omega)]
          exact hv
        · have df : isD p[i] = false := by simpa using d
          refine .inr ⟨(0, false), ?_, Ev.succ ?_⟩
          · rw [if_neg]
            intro h
            rw [AN, List.all_eq_true] at h
            have := h p[i] (List.getElem_mem hi)
            rw [cf, df] at this
            cases this
          · simp only [call_isPlain.l0, hb, hs, isL_eq, isD_eq, Option.bind_some]
            exact Ev.pos (by omega) (Ev.pos (by omega) (Ev.pos (by omega) (Ev.neg c (Ev.pos (by omega) (Ev.pos (by omega) (Ev.neg d (Ev.now _))))))))
    (fun x ⟨i1, i2⟩ => ⟨(x, true), by rw [List.take_length] at i1 i2; rw [if_pos i1, i2], Ev.step (f := fun _ => some _) (fun k => by simp only [call_isPlain.l0, mk_size]; rw [if_neg (by omega)]) (Ev.now _)⟩)
    0 0 (by omega) ⟨by simp [AN], by simp [nL]⟩
  rw [hv] at he
  exact he
/-- The place of the last digit; -1: there is none. -/
def LastD (p : List UInt8) (r : Int) : Prop := -1 ≤ r ∧ r < p.length ∧ (∀ (j : Nat) (h : j < p.length), r < (j : Int) → isD p[j] = false) ∧ (∀ (h : r.toNat < p.length), 0 ≤ r → isD p[r.toNat] = true)
def digB : ByteArray := ⟨#[48, 49, 50, 51, 52, 53, 54, 55, 56, 57]⟩
theorem digB_eq : digB = mk digL := rfl
theorem ascii_at {p : List UInt8} (h : asciiT (mk p) = true) (i : Nat) (hi : i < p.length) : p[i].toNat < 128 := by
  rw [mk_ascii, List.all_eq_true] at h
  simpa using h p[i] (List.getElem_mem hi)
theorem LastD_hit {p : List UInt8} {n : Nat} (hn : n < p.length) (hd : isD p[n] = true) (h : ∀ (j : Nat) (h : j < p.length), n < j → isD p[j] = false) : LastD p (n : Int) :=
  ⟨by omega, by omega, fun j hj hjn => h j hj (by omega), fun _ _ => by simpa using hd⟩
theorem LastD_none {p : List UInt8} (h : ∀ (j : Nat) (h : j < p.length), isD p[j] = false) : LastD p (-1) :=
  ⟨by omega, by omega, fun j hj _ => h j hj, fun _ h => absurd h (by omega)⟩
theorem downTo {p : List UInt8} (F : Nat → Nat → Option Int)
    (h0 : ∀ v, v = (-1 : Int) → Ev (fun k => F k 0) v)
    (hs : ∀ (n : Nat) (hn : n < p.length), (isD p[n] = true → Ev (fun k => F k (n + 1)) (n : Int)) ∧ (isD p[n] = false → ∀ v, Ev (fun k => F k n) v → Ev (fun k => F k (n + 1)) v)) :
    ∀ n, n ≤ p.length → (∀ (j : Nat) (h : j < p.length), n ≤ j → isD p[j] = false) → ∃ r, Ev (fun k => F k n) r ∧ LastD p r := by
  intro n
  induction n with
  | zero => intro _ h; exact ⟨-1, h0 _ rfl, LastD_none fun j hj => h j hj (by omega)⟩
  | succ n ih =>
    intro hn h
    obtain ⟨h1, h2⟩ := hs n (by omega)
    by_cases c : isD p[n] = true
    · exact ⟨n, h1 c, LastD_hit (by omega) c fun j hj hjn => h j hj (by omega)⟩
    · have c : isD p[n] = false := by simpa using c
      obtain ⟨r, hr, hl⟩ := ih (by omega) (fun j hj hjn => by
        by_cases e : j = n
        · subst e; exact c
        · exact h j hj (by omega))
      exact ⟨r, h2 c r hr, hl⟩
theorem indexByte_dig : ∀ b : UInt8, decide (Lib.indexByte digL b ≥ 0) = isD b := all_bytes (by decide +kernel)
theorem ir_eq (b : UInt8) (h : b.toNat < 128) : strings_IndexRune.f digB (b.toNat : Int) = some (Lib.indexByte digL b) := by
  unfold strings_IndexRune.f
  rw [if_pos (by omega), digB_eq, mk_data]
  congr 2
  simp
theorem i32_wrap (b : UInt8) : IntKind.i32.wrap (b.toNat : Int) = (b.toNat : Int) := by
  have : ∀ b : UInt8, IntKind.i32.wrap (b.toNat : Int) = (b.toNat : Int) := all_bytes (by decide +kernel)
  exact this b
theorem dlr_eq (p : List UInt8) (n : Nat) (hn : n < p.length) (hp : p.length ≤ 1000000) (h : p[n].toNat < 128) (k : Nat) : unicode_utf8_DecodeLastRuneInString.f k (mk (p.take (n + 1))) = some ((p[n].toNat : Int), 1) := by
  have hs : ((mk (p.take (n + 1))).size : Int) = ((n + 1 : Nat) : Int) := by rw [mk_size, List.length_take]; congr 1; omega
  have hl : n < (p.take (n + 1)).length := by rw [List.length_take]; omega
  have hb : bt (mk (p.take (n + 1))) (n : Int) = (p[n].toNat : Int) := by rw [mk_bt _ n hl]; simp
  have hw : wrap64 (((n + 1 : Nat) : Int) - 1) = (n : Int) := by rw [wrap_id (by omega) (by omega)]; omega
  unfold unicode_utf8_DecodeLastRuneInString.f
  rw [hs, hw, hb, i32_wrap, if_neg (by omega), if_pos (by omega), if_pos (by omega), if_pos (by omega)]
theorem lia_ev (p : List UInt8) (h : asciiT (mk p) = true) (hp : p.length ≤ 1000000) : ∃ r : Int, Ev (fun k => strings_LastIndexAny.f k (mk p) digB) r ∧ LastD p r := by
  have hsz := mk_size p
  have hd0 : ¬ digB = (⟨#[]⟩ : ByteArray) := by decide +kernel
  have hdz : (digB.size : Int) = 10 := rfl
  by_cases c : 8 < p.length
  · have hm : sMake.f digB = some digB := by
      unfold sMake.f
      rw [if_pos ⟨by decide +kernel, by decide +kernel⟩]
    obtain ⟨r, hr, hl⟩ := downTo (p := p) (fun k n => sLast.l9 k (mk p) digB ((n : Int) - 1))
      (fun v hv => by subst hv; exact Ev.step (f := fun _ => some _) (fun k => by simp only [sLast.l9]; rw [if_neg (by omega)]) (Ev.now _))
      (fun n hn => by
        have hb := mk_bt p n hn
        have ha := ascii_at h n hn
        have e1 : ((n + 1 : Nat) : Int) - 1 = (n : Int) := by omega
        have hh : sHas.f digB (p[n].toNat : Int) = some (isD p[n]) := by
          unfold sHas.f
          rw [if_pos (by omega), digB_eq, mk_data, ← has_dig]
          congr 2
          simp
        constructor
        · intro hd
          refine Ev.succ ?_
          simp only [sLast.l9, e1, hb, hsz, hh, Option.bind_some]
          exact Ev.pos (by omega) (Ev.pos (by omega) (Ev.pos (by omega) (Ev.pos hd (Ev.now _))))
        · intro hd v hv
          refine Ev.succ ?_
          simp only [sLast.l9, e1, hb, hsz, hh, Option.bind_some, wrap_id (e := (n : Int) - 1) (by omega) (by omega)]
          exact Ev.pos (by omega) (Ev.pos (by omega) (Ev.pos (by omega) (Ev.neg (by rw [hd]; simp) hv))))
      p.length (Nat.le_refl _) (fun j hj hjn => absurd hj (by omega))
    refine ⟨r, ?_, hl⟩
    unfold strings_LastIndexAny.f sLast.f strings_shouldUseASCIISet.f
    simp only [hm, Option.bind_some, hsz, wrap_id (e := (p.length : Int) - 1) (by omega) (by omega)]
    exact Ev.pos (by omega) (Ev.neg hd0 (Ev.neg (by omega) (Ev.pos (by simp; omega) hr)))
  · obtain ⟨r, hr, hl⟩ := downTo (p := p) (fun k n => strings_LastIndexAny_s.l2 k (mk p) digB (n : Int))
      (fun v hv => by subst hv; exact Ev.step (f := fun _ => some _) (fun k => by simp only [strings_LastIndexAny_s.l2]; rw [if_neg (by omega)]) (Ev.now _))
      (fun n hn => by
        have ha := ascii_at h n hn
        have e1 : wrap64 (((n + 1 : Nat) : Int) - 1) = (n : Int) := by rw [wrap_id (by omega) (by omega)]; omega
        have e2 : (mk p).extract 0 (((n + 1 : Nat) : Int)).toNat = mk (p.take (n + 1)) := by rw [mk_extract]; simp
        have hi := indexByte_dig p[n]
        constructor
        · intro hd
          refine Ev.succ ?_
          simp only [strings_LastIndexAny_s.l2, e2, dlr_eq p n hn hp ha, ir_eq _ ha, hsz, Option.bind_some, e1]
          exact Ev.pos (by omega) (Ev.pos (by omega) (Ev.pos (by omega) (Ev.pos (by rw [hd] at hi; simpa using hi) (Ev.now _))))
        · intro hd v hv
          refine Ev.succ ?_
          simp only [strings_LastIndexAny_s.l2, e2, dlr_eq p n hn hp ha, ir_eq _ ha, hsz, Option.bind_some, e1]
          exact Ev.pos (by omega) (Ev.pos (by omega) (Ev.pos (by omega) (Ev.neg (by rw [hd] at hi; simpa using hi) hv))))
      p.length (Nat.le_refl _) (fun j hj hjn => absurd hj (by omega))
    by_cases c1 : p.length = 1
    · have ha := ascii_at h 0 (by omega)
      have hb := mk_bt p 0 (by omega)
      have hi := indexByte_dig p[0]
      have e0 : ((0 : Nat) : Int) = 0 := rfl
      rw [e0] at hb
      have hj : Ev (fun k => strings_LastIndexAny_s.j7 k digB (p[0].toNat : Int)) (if isD p[0] = true then 0 else -1) := by
        refine Ev.step (f := fun _ => some _) (fun k => ?_) (Ev.now _)
        simp only [strings_LastIndexAny_s.j7, ir_eq _ ha, Option.bind_some]
        by_cases d : isD p[0] = true
        · rw [if_pos d, if_pos (by rw [d] at hi; simpa using hi)]
        · rw [if_neg d, if_neg (by have d : isD p[0] = false := by simpa using d
                                   rw [d] at hi; simpa using hi)]
      refine ⟨if isD p[0] = true then 0 else -1, ?_, ?_⟩
      · unfold strings_LastIndexAny.f strings_LastIndexAny_s.f strings_shouldUseASCIISet.f
        simp only [hsz, hb, i32_wrap]
        exact Ev.neg (by omega) (Ev.neg hd0 (Ev.pos (by omega) (Ev.pos (by omega) (Ev.neg (by omega) hj))))
      · by_cases d : isD p[0] = true
        · rw [if_pos d]
          exact LastD_hit (n := 0) (by omega) d fun j hj hjn => absurd hj (by omega)
        · rw [if_neg d]
          refine LastD_none fun j hj => ?_
          have : j = 0 := by omega
          subst this
          simpa using d
    · refine ⟨r, ?_, hl⟩
      have hj : Ev (fun k => strings_LastIndexAny_s.j19 k (mk p) digB) r := by
        refine Ev.succ ?_
        simp only [strings_LastIndexAny_s.j19, hdz, hsz]
        exact Ev.neg (by decide) hr
      unfold strings_LastIndexAny.f strings_LastIndexAny_s.f strings_shouldUseASCIISet.f
      simp only [hsz, Option.bind_some]
      exact Ev.neg (by omega) (Ev.neg hd0 (Ev.neg (by omega) (Ev.neg (by simp; omega) hj)))
noncomputable def lastD (p : List UInt8) : Int := Classical.epsilon fun r : Int => Ev (fun k => strings_LastIndexAny.f k (mk p) digB) r ∧ LastD p r
theorem lastD_spec (p : List UInt8) (h : asciiT (mk p) = true) (hp : p.length ≤ 1000000) : Ev (fun k => strings_LastIndexAny.f k (mk p) digB) (lastD p) ∧ LastD p (lastD p) :=
  Classical.epsilon_spec (p := fun r : Int => Ev (fun k => strings_LastIndexAny.f k (mk p) digB) r ∧ LastD p r) (lia_ev p h hp)
end Go.EV.Pure
namespace Go.EV.Pure
open Go Go.EV Go.RowKit
set_option linter.unusedSimpArgs false
set_option maxRecDepth 100000
abbrev PT6 := ByteArray × ByteArray × ByteArray × Int × ByteArray × Bool
def noT : PT6 := (eB, eB, eB, 0, eB, false)
noncomputable def isBase (p : List UInt8) : Bool := AN p && decide (p.length ≤ 10) && decide (1 ≤ lastD p ∧ lastD p ≤ 3) && decide (1 ≤ (p.length : Int) - lastD p - 1 ∧ (p.length : Int) - lastD p - 1 ≤ 4) && decide (0 < nL (p.take (lastD p).toNat))
def beginB (p : List UInt8) : Bool := AN p && decide (0 < nL p) && decide (p.length ≤ 4)
theorem AN_take {p : List UInt8} (h : AN p = true) (n : Nat) : AN (p.take n) = true := by
  rw [AN, List.all_eq_true] at h ⊢
  exact fun b hb => h b (List.mem_of_mem_take hb)
theorem begin_eq (p : List UInt8) (hp : p.length ≤ 1000000) : pileref1_begin.f (mk p) = some (beginB p) := by
  unfold pileref1_begin.f
  rw [plain_eq p 1 4 (by omega), Option.bind_some]
  congr 1
  unfold beginB
  have hn : nL p ≤ p.length := List.countP_le_length
  rw [Bool.eq_iff_iff]
  simp only [Bool.and_eq_true, decide_eq_true_eq]
  constructor
  · rintro ⟨⟨⟨h1, h2⟩, h3⟩, h4⟩; exact ⟨⟨h3, h4⟩, by omega⟩
  · rintro ⟨⟨h3, h4⟩, h2⟩; exact ⟨⟨⟨by omega, by omega⟩, h3⟩, h4⟩
theorem isBegin_ev (p : List UInt8) (hp : p.length ≤ 1000000) : Ev (fun k => call_isBegin.f k (mk p)) (beginB p) := by
  unfold call_isBegin.f beginB
  have e1 := isPlain_ev p hp
  refine Ev.bind e1 ?_
  by_cases c : AN p = true
  · have hq : (if AN p = true then ((nL p : Int), true) else (0, false)) = ((nL p : Int), true) := if_pos c
    rw [hq]
    simp only [c, Bool.true_and, mk_size]
    by_cases d : 0 < nL p
    · have : decide ((p.length : Int) ≤ 4) = (decide (0 < nL p) && decide (p.length ≤ 4)) := by rw [decide_eq_true d, Bool.true_and, decide_eq_decide]; omega
      rw [← this]
      exact Ev.pos trivial (Ev.pos (by omega) (Ev.now _))
    · rw [decide_eq_false d]
      exact Ev.pos trivial (Ev.neg (by omega) (Ev.now _))
  · have cf : AN p = false := by simpa using c
    have hq : (if AN p = true then ((nL p : Int), true) else (0, false)) = ((0 : Int), false) := if_neg c
    rw [hq]
    simp only [cf, Bool.false_and]
    exact Ev.neg (by simp) (Ev.now _)
theorem cSplit_ev (p : List UInt8) (hp : p.length ≤ 1000000) : ∃ d, Ev (fun k => call_split.f k (mk p)) (d, isBase p) ∧ (isBase p = true → d = lastD p) := by
  unfold call_split.f
  by_cases c : AN p = true
  · have e1 := isPlain_ev p hp
    rw [if_pos c] at e1
    obtain ⟨e2, l1, l2, l3, l4⟩ := lastD_spec p (AN_ascii c) hp
    have hsz := mk_size p
    have no : ∀ d : Int, isBase p = false → Ev (fun k => (some (0, false) : Option (Int × Bool))) (0, isBase p) := fun d h => by rw [h]; exact Ev.now _
    have ib : isBase p = (decide (p.length ≤ 10) && decide (1 ≤ lastD p ∧ lastD p ≤ 3) && decide (1 ≤ (p.length : Int) - lastD p - 1 ∧ (p.length : Int) - lastD p - 1 ≤ 4) && decide (0 < nL (p.take (lastD p).toNat))) := by unfold isBase; rw [c, Bool.true_and]
    have w1 : wrap64 (wrap64 ((p.length : Int) - lastD p) - 1) = (p.length : Int) - lastD p - 1 := by rw [wrap_id (e := (p.length : Int) - lastD p) (by omega) (by omega), wrap_id (by omega) (by omega)]
    by_cases c1 : p.length ≤ 10
    · by_cases c2 : 1 ≤ lastD p ∧ lastD p ≤ 3
      · by_cases c3 : 1 ≤ (p.length : Int) - lastD p - 1 ∧ (p.length : Int) - lastD p - 1 ≤ 4
        · refine ⟨lastD p, ?_, fun _ => rfl⟩
          have e3 := isPlain_ev (p.take (lastD p).toNat) (by simp; omega)
          rw [if_pos (AN_take c _)] at e3
          rw [ib, decide_eq_true c1, decide_eq_true c2, decide_eq_true c3, Bool.true_and, Bool.true_and, Bool.true_and]
          have e4 : decide (((nL (p.take (lastD p).toNat) : Nat) : Int) > 0) = decide (0 < nL (p.take (lastD p).toNat)) := by rw [decide_eq_decide]; omega
          refine Ev.bind e1 (Ev.pos rfl (Ev.neg (by rw [hsz]; omega) (Ev.bind e2 (Ev.neg (by omega) (Ev.neg (by omega) ?_)))))
          simp only [hsz, w1, mk_extract, List.drop_zero]
          refine Ev.neg (by omega) (Ev.neg (by omega) (Ev.pos (by omega) (Ev.pos (by omega) (Ev.bind e3 ?_))))
          simp only [e4]
          exact Ev.now _
        · have ibf : isBase p = false := by rw [ib, decide_eq_false c3]; simp
          refine ⟨0, ?_, fun h => by rw [ibf] at h; cases h⟩
          refine Ev.bind e1 (Ev.pos rfl (Ev.neg (by rw [hsz]; omega) (Ev.bind e2 (Ev.neg (by omega) (Ev.neg (by omega) ?_)))))
          simp only [hsz, w1]
          by_cases c4 : (p.length : Int) - lastD p - 1 < 1
          · exact Ev.pos c4 (no 0 ibf)
          · exact Ev.neg c4 (Ev.pos (by omega) (no 0 ibf))
      · have ibf : isBase p = false := by rw [ib, decide_eq_false c2]; simp
        refine ⟨0, ?_, fun h => by rw [ibf] at h; cases h⟩
        refine Ev.bind e1 (Ev.pos rfl (Ev.neg (by rw [hsz]; omega) (Ev.bind e2 ?_)))
        by_cases c4 : lastD p < 1
        · exact Ev.pos c4 (no 0 ibf)
        · exact Ev.neg c4 (Ev.pos (by omega) (no 0 ibf))
    · have ibf : isBase p = false := by rw [ib, decide_eq_false c1]; simp
      refine ⟨0, ?_, fun h => by rw [ibf] at h; cases h⟩
      exact Ev.bind e1 (Ev.pos rfl (Ev.pos (by rw [hsz]; omega) (no 0 ibf)))
  · have cf : AN p = false := by simpa using c
    have ibf : isBase p = false := by unfold isBase; rw [cf]; simp
    have e1 := isPlain_ev p hp
    rw [if_neg c] at e1
    refine ⟨0, ?_, fun h => by rw [ibf] at h; cases h⟩
    rw [ibf]
    exact Ev.bind e1 (Ev.neg (by simp) (Ev.now _))
theorem base_bd {p : List UInt8} (h : isBase p = true) : AN p = true ∧ 1 ≤ lastD p ∧ lastD p ≤ 3 ∧ 1 ≤ (p.length : Int) - lastD p - 1 ∧ p.length ≤ 10 := by
  unfold isBase at h
  simp only [Bool.and_eq_true, decide_eq_true_eq] at h
  obtain ⟨⟨⟨⟨h1, h2⟩, h3⟩, h4⟩, h5⟩ := h
  exact ⟨h1, by omega, by omega, by omega, h2⟩
/-- The parts of a base call. -/
noncomputable def baseT (p : List UInt8) (kind : Int) (added : ByteArray) : PT6 := (mk p, mk (p.take (lastD p + 1).toNat), mk (p.drop (lastD p + 1).toNat), kind, added, true)
theorem based_ev (p : List UInt8) (hp : p.length ≤ 1000000) : Ev (fun k => call_based.f k (mk p)) (if isBase p = true then baseT p 0 eB else noT) := by
  obtain ⟨d, e1, h1⟩ := cSplit_ev p hp
  unfold call_based.f
  refine Ev.bind e1 ?_
  by_cases c : isBase p = true
  · obtain ⟨b1, b2, b3, b4, b5⟩ := base_bd c
    obtain rfl := h1 c
    have hsz := mk_size p
    have hq : (if isBase p = true then baseT p 0 eB else noT) = baseT p 0 eB := if_pos c
    rw [hq]
    simp only [hsz, mk_extract, List.drop_zero, wrap_id (e := lastD p + 1) (by omega) (by omega), Int.toNat_natCast, List.take_length]
    exact Ev.pos c (Ev.pos (by omega) (Ev.pos (by omega) (Ev.pos (by omega) (Ev.pos (by omega) (Ev.now _)))))
  · have hq : (if isBase p = true then baseT p 0 eB else noT) = noT := if_neg c
    rw [hq]
    exact Ev.neg c (Ev.now _)
theorem baseAt_ev (p : List UInt8) (h : asciiT (mk p) = true) (hp : p.length ≤ 1000000) : Ev (fun k => pileref1_baseAt.f k (mk p)) (if isBase p = true then lastD p else -1) := by
  obtain ⟨e2, l1, l2, l3, l4⟩ := lastD_spec p h hp
  have hsz := mk_size p
  have e3 := plain_eq p 3 10 (by omega)
  unfold pileref1_baseAt.f
  refine Ev.bind e2 ?_
  simp only [e3, Option.bind_some, in_eq, hsz, wrap_id (e := (p.length : Int) - 1) (by omega) (by omega), wrap_id (e := (p.length : Int) - 1 - lastD p) (by omega) (by omega), mk_extract, List.drop_zero]
  have hca : ∀ n, strings_ContainsAny.f (mk (p.take n)) str_1 = some (decide (0 < nL (p.take n))) := fun n => ca_eq _ (by rw [List.length_take]; omega) (ascii_sub h fun b hb => List.mem_of_mem_take hb)
  have hle : ∀ n, nL (p.take n) ≤ nL p := fun n => by unfold nL; exact (List.take_sublist n p).countP_le
  have ib : isBase p = (AN p && decide (p.length ≤ 10) && decide (1 ≤ lastD p ∧ lastD p ≤ 3) && decide (1 ≤ (p.length : Int) - lastD p - 1 ∧ (p.length : Int) - lastD p - 1 ≤ 4) && decide (0 < nL (p.take (lastD p).toNat))) := rfl
  simp only [hca, Option.bind_some]
  have hle := hle (lastD p).toNat
  by_cases c : isBase p = true
  · rw [if_pos c]
    rw [ib] at c
    simp only [Bool.and_eq_true, decide_eq_true_eq] at c
    obtain ⟨⟨⟨⟨c1, c2⟩, c3⟩, c4⟩, c5⟩ := c
    refine Ev.pos ?_ (Ev.pos ?_ (Ev.pos ?_ (Ev.pos (by omega) (Ev.pos (by omega) (Ev.pos ?_ (Ev.now _))))))
    · simp only [Bool.and_eq_true, decide_eq_true_eq]; exact ⟨⟨⟨by omega, by omega⟩, c1⟩, by omega⟩
    · simp only [Bool.and_eq_true, decide_eq_true_eq]; omega
    · simp only [Bool.and_eq_true, decide_eq_true_eq]; omega
    · simp only [decide_eq_true_eq]; omega
  · rw [if_neg c]
    rw [ib] at c
    simp only [Bool.and_eq_true, decide_eq_true_eq] at c
    refine Ev.ite (fun d1 => Ev.ite (fun d2 => Ev.ite (fun d3 => ?_) (fun _ => Ev.now _)) (fun _ => Ev.now _)) (fun _ => Ev.now _)
    simp only [Bool.and_eq_true, decide_eq_true_eq] at d1 d2 d3
    refine Ev.pos (by omega) (Ev.pos (by omega) (Ev.neg ?_ (Ev.now _)))
    simp only [decide_eq_true_eq]
    intro d4
    exact c ⟨⟨⟨⟨d1.1.2, by omega⟩, by omega⟩, by omega⟩, d4⟩
theorem PartsOf1_ev (p : List UInt8) (h : isBase p = true) : Ev (fun k => pileref1_PartsOf_1.f k (mk p)) (mk p, mk (p.take (lastD p + 1).toNat), mk (p.drop (lastD p + 1).toNat), 0, eB) := by
  obtain ⟨b1, b2, b3, b4, b5⟩ := base_bd h
  have e1 := baseAt_ev p (AN_ascii b1) (by omega)
  rw [if_pos h] at e1
  have hsz := mk_size p
  unfold pileref1_PartsOf_1.f
  refine Ev.bind e1 ?_
  simp only [hsz, mk_extract, List.drop_zero, wrap_id (e := lastD p + 1) (by omega) (by omega), Int.toNat_natCast, List.take_length]
  exact Ev.pos (by omega) (Ev.pos (by omega) (Ev.pos (by omega) (Ev.pos (by omega) (Ev.now _))))
/-- What something behind a base call is. -/
def tlT (p : List UInt8) : Int × ByteArray × Bool :=
  if p = [112] then (3, eB, true) else if p = [109] then (4, eB, true) else if p = [109, 109] then (5, eB, true) else if p = [97, 109] then (6, eB, true)
  else if p.length = 1 ∧ isD (p.getD 0 0) = true then (2, mk p, true) else (1, mk p, beginB p)
theorem tail_ev (p : List UInt8) (hp : p.length ≤ 1000000) : Ev (fun k => call_tail.f k (mk p)) (tlT p) := by
  have hb := isBegin_ev p hp
  have hsz := mk_size p
  have q1 : mk p = (⟨#[112]⟩ : ByteArray) ↔ p = [112] := mk_inj (q := [112])
  have q2 : mk p = (⟨#[109]⟩ : ByteArray) ↔ p = [109] := mk_inj (q := [109])
  have q3 : mk p = (⟨#[109, 109]⟩ : ByteArray) ↔ p = [109, 109] := mk_inj (q := [109, 109])
  have q4 : mk p = (⟨#[97, 109]⟩ : ByteArray) ↔ p = [97, 109] := mk_inj (q := [97, 109])
  unfold call_tail.f tlT
  simp only [q1, q2, q3, q4, hsz]
  by_cases c1 : p = [112]
  · rw [if_pos c1]; exact Ev.pos c1 (Ev.now _)
  refine Ev.neg c1 ?_
  rw [if_neg c1]
  by_cases c2 : p = [109]
  · rw [if_pos c2]; exact Ev.pos c2 (Ev.now _)
  refine Ev.neg c2 ?_
  rw [if_neg c2]
  by_cases c3 : p = [109, 109]
  · rw [if_pos c3]; exact Ev.pos c3 (Ev.now _)
  refine Ev.neg c3 ?_
  rw [if_neg c3]
  by_cases c4 : p = [97, 109]
  · rw [if_pos c4]; exact Ev.pos c4 (Ev.now _)
  refine Ev.neg c4 ?_
  rw [if_neg c4]
  by_cases c5 : p.length = 1
  · have hb0 := mk_bt p 0 (by omega)
    have e0 : ((0 : Nat) : Int) = 0 := rfl
    rw [e0] at hb0
    have e1 : p.getD 0 0 = p[0] := by simp [List.getD, List.getElem?_eq_getElem (show 0 < p.length by omega)]
    rw [e1]
    simp only [hb0, isD_eq, Option.bind_some]
    refine Ev.pos (by omega) (Ev.pos (by omega) ?_)
    by_cases c6 : isD p[0] = true
    · rw [if_pos ⟨c5, c6⟩]; exact Ev.pos c6 (Ev.now _)
    · rw [if_neg fun h => c6 h.2]; exact Ev.neg c6 (Ev.bind hb (Ev.now _))
  · rw [if_neg fun h => c5 h.1]
    exact Ev.neg (by omega) (Ev.bind hb (Ev.now _))
/-! What stands before and behind the first slash. -/
def cutA (p : List UInt8) : List UInt8 := (Lib.cut p [47]).1
def cutZ (p : List UInt8) : List UInt8 := (Lib.cut p [47]).2.1
def cutY (p : List UInt8) : Bool := (Lib.cut p [47]).2.2
theorem cut_eq (p : List UInt8) (hp : p.length ≤ 1000000) : strings_Cut.f (mk p) (⟨#[47]⟩ : ByteArray) = some (mk (cutA p), mk (cutZ p), cutY p) := by
  unfold strings_Cut.f
  rw [if_pos (by rw [mk_size]; omega), mk_data]
  rfl
theorem index_mem (c : UInt8) : ∀ p : List UInt8, 0 ≤ Lib.index p [c] → c ∈ p
  | [], h => by simp [Lib.index] at h
  | b :: l, h => by
    have ih := index_mem c l
    unfold Lib.index at h
    by_cases e : b = c
    · simp [e]
    · have : ([c] : List UInt8).isPrefixOf (b :: l) = false := by
        simp only [List.isPrefixOf, Bool.and_true, beq_eq_false_iff_ne]
        exact fun h => e h.symm
      rw [this] at h
      simp only [Bool.false_eq_true, if_false] at h
      by_cases d : Lib.index l [c] = -1
      · rw [d] at h; simp at h
      · have d' : (Lib.index l [c] == -1) = false := by simpa using d
        rw [d'] at h
        simp only [Bool.false_eq_true, if_false] at h
        have hg := Lib.index_ge l [c]
        exact List.mem_cons_of_mem _ (ih (by omega))
theorem cut_sub (p : List UInt8) : (∀ b ∈ cutA p, b ∈ p) ∧ (∀ b ∈ cutZ p, b ∈ p) ∧ (cutA p).length ≤ p.length ∧ (cutZ p).length ≤ p.length ∧ (cutY p = true → (47 : UInt8) ∈ p) ∧ (cutY p = false → cutA p = p) := by
  unfold cutA cutZ cutY Lib.cut
  by_cases c : 0 ≤ Lib.index p [47]
  · rw [if_pos c]
    exact ⟨fun b hb => List.mem_of_mem_take hb, fun b hb => List.mem_of_mem_drop hb, by simp only [List.length_take]; omega, by simp only [List.length_drop]; omega, (fun _ => index_mem 47 p c), (fun h => absurd h (by simp))⟩
  · rw [if_neg c]
    exact ⟨fun b hb => hb, (fun b hb => absurd hb (by simp)), Nat.le_refl _, Nat.zero_le _, (fun h => absurd h (by simp)), fun _ => rfl⟩
theorem AN_no47 {p : List UInt8} (h : AN p = true) : (47 : UInt8) ∉ p := fun hm => by
  rw [AN, List.all_eq_true] at h
  have := h 47 hm
  revert this
  decide
/-- The parts of a call sign. -/
noncomputable def partsT (p : List UInt8) : PT6 :=
  if p.length > 14 then noT
  else if isBase p = true then baseT p 0 eB
  else if cutY p = true then
    if isBase (cutZ p) = true ∧ beginB (cutA p) = true then baseT (cutZ p) 1 (mk (cutA p))
    else if isBase (cutA p) = true ∧ (tlT (cutZ p)).2.2 = true then baseT (cutA p) (tlT (cutZ p)).1 (tlT (cutZ p)).2.1 else noT
  else noT
theorem Parts_ev (p : List UInt8) (hp : p.length ≤ 1000000) : Ev (fun k => call_Parts.f k (mk p)) (partsT p) := by
  have hsz := mk_size p
  obtain ⟨s1, s2, s3, s4, s5, s6⟩ := cut_sub p
  unfold call_Parts.f partsT
  by_cases c0 : p.length > 14
  · rw [if_pos c0]; exact Ev.pos (by rw [hsz]; omega) (Ev.now _)
  rw [if_neg c0]
  refine Ev.neg (by rw [hsz]; omega) ?_
  have eb := based_ev p hp
  by_cases c1 : isBase p = true
  · rw [if_pos c1] at eb
    rw [if_pos c1]; exact Ev.bind eb (Ev.pos rfl (Ev.now _))
  rw [if_neg c1] at eb
  rw [if_neg c1]
  refine Ev.bind eb (Ev.neg (by simp [noT]) ?_)
  simp only [cut_eq p hp, Option.bind_some]
  by_cases c2 : cutY p = true
  · rw [if_pos c2]
    refine Ev.pos c2 ?_
    have ez := based_ev (cutZ p) (by omega)
    have fin : ∀ (w : PT6), w = (if isBase (cutA p) = true ∧ (tlT (cutZ p)).2.2 = true then baseT (cutA p) (tlT (cutZ p)).1 (tlT (cutZ p)).2.1 else noT) →
        Ev (fun k => (call_based.f k (mk (cutA p))).bind fun r5 => ((call_tail.f k (mk (cutZ p))).bind fun r6 => (if r5.2.2.2.2.2 = true then (if r6.2.2 = true then Option.some (r5.1, r5.2.1, r5.2.2.1, r6.1, r6.2.1, true) else Option.some ((⟨#[]⟩ : ByteArray), (⟨#[]⟩ : ByteArray), (⟨#[]⟩ : ByteArray), 0, (⟨#[]⟩ : ByteArray), false)) else Option.some ((⟨#[]⟩ : ByteArray), (⟨#[]⟩ : ByteArray), (⟨#[]⟩ : ByteArray), 0, (⟨#[]⟩ : ByteArray), false)))) w := by
      intro w hw
      have eb := based_ev (cutA p) (by omega)
      by_cases d1 : isBase (cutA p) = true
      · rw [if_pos d1] at eb
        refine Ev.bind eb (Ev.bind (tail_ev (cutZ p) (by omega)) (Ev.pos rfl ?_))
        by_cases d2 : (tlT (cutZ p)).2.2 = true
        · rw [if_pos ⟨d1, d2⟩] at hw; subst hw; exact Ev.pos d2 (Ev.now _)
        · rw [if_neg fun h => d2 h.2] at hw; subst hw; exact Ev.neg d2 (Ev.now _)
      · rw [if_neg d1] at eb
        rw [if_neg fun h => d1 h.1] at hw
        subst hw
        exact Ev.bind eb (Ev.bind (tail_ev (cutZ p) (by omega)) (Ev.neg (by simp [noT]) (Ev.now _)))
    by_cases c3 : isBase (cutZ p) = true
    · rw [if_pos c3] at ez
      refine Ev.bind ez (Ev.pos rfl ?_)
      refine (Ev.bind (isBegin_ev (cutA p) (by omega)) ?_)
      by_cases c4 : beginB (cutA p) = true
      · rw [if_pos ⟨c3, c4⟩]; exact Ev.pos c4 (Ev.now _)
      · rw [if_neg fun h => c4 h.2]
        exact Ev.neg c4 (fin _ rfl)
    · rw [if_neg c3] at ez
      rw [if_neg fun h => c3 h.1]
      exact Ev.bind ez (Ev.neg (by simp [noT]) (fin _ rfl))
  · rw [if_neg c2]
    exact Ev.neg c2 (Ev.now _)
end Go.EV.Pure
namespace Go.EV.Pure
open Go Go.EV Go.RowKit
set_option linter.unusedSimpArgs false
set_option maxRecDepth 100000
theorem hasDig1 : ∀ b : UInt8, Lib.contains digL [b] = isD b := all_bytes (by decide +kernel)
theorem ref_tail (p z : List UInt8) (hz : z.length ≤ 1000000) (k2 : Int) (a : ByteArray × ByteArray × ByteArray × Int × ByteArray) (w : PT6)
    (ha : a.2.2.2.2 = eB)
    (hw : w = if (tlT z).2.2 = true then (a.1, a.2.1, a.2.2.1, (tlT z).1, (tlT z).2.1, true) else noT) :
    Ev (fun k => (if mk z = (⟨#[112]⟩ : ByteArray) then pileref1_PartsOf.j29 k a.1 a.2.1 a.2.2.1 3 a.2.2.2.2 else (if mk z = (⟨#[109]⟩ : ByteArray) then pileref1_PartsOf.j29 k a.1 a.2.1 a.2.2.1 4 a.2.2.2.2 else (if mk z = (⟨#[109, 109]⟩ : ByteArray) then pileref1_PartsOf.j29 k a.1 a.2.1 a.2.2.1 5 a.2.2.2.2 else (if mk z = (⟨#[97, 109]⟩ : ByteArray) then pileref1_PartsOf.j29 k a.1 a.2.1 a.2.2.1 6 a.2.2.2.2 else (if ((mk z).size : Int) = 1 then ((strings_Contains.f (⟨#[48, 49, 50, 51, 52, 53, 54, 55, 56, 57]⟩ : ByteArray) (mk z)).bind fun r10 => (if r10 = true then pileref1_PartsOf.j29 k a.1 a.2.1 a.2.2.1 2 (mk z) else ((pileref1_begin.f (mk z)).bind fun r11 => (if r11 = true then pileref1_PartsOf.j29 k a.1 a.2.1 a.2.2.1 1 (mk z) else Option.some ((⟨#[]⟩ : ByteArray), (⟨#[]⟩ : ByteArray), (⟨#[]⟩ : ByteArray), 0, (⟨#[]⟩ : ByteArray), false))))) else ((pileref1_begin.f (mk z)).bind fun r14 => (if r14 = true then pileref1_PartsOf.j29 k a.1 a.2.1 a.2.2.1 1 (mk z) else Option.some ((⟨#[]⟩ : ByteArray), (⟨#[]⟩ : ByteArray), (⟨#[]⟩ : ByteArray), 0, (⟨#[]⟩ : ByteArray), false))))))))) w := by
  have hj : ∀ (x1 x2 x3 : ByteArray) (n : Int) (x4 : ByteArray), Ev (fun k => pileref1_PartsOf.j29 k x1 x2 x3 n x4) (x1, x2, x3, n, x4, true) := fun x1 x2 x3 n x4 => Ev.from 1 fun k => rfl
  have hsz := mk_size z
  have q1 : mk z = (⟨#[112]⟩ : ByteArray) ↔ z = [112] := mk_inj (q := [112])
  have q2 : mk z = (⟨#[109]⟩ : ByteArray) ↔ z = [109] := mk_inj (q := [109])
  have q3 : mk z = (⟨#[109, 109]⟩ : ByteArray) ↔ z = [109, 109] := mk_inj (q := [109, 109])
  have q4 : mk z = (⟨#[97, 109]⟩ : ByteArray) ↔ z = [97, 109] := mk_inj (q := [97, 109])
  have hb := begin_eq z hz
  have fin : tlT z = (1, mk z, beginB z) → Ev (fun k => if beginB z = true then pileref1_PartsOf.j29 k a.1 a.2.1 a.2.2.1 1 (mk z) else Option.some ((⟨#[]⟩ : ByteArray), (⟨#[]⟩ : ByteArray), (⟨#[]⟩ : ByteArray), 0, (⟨#[]⟩ : ByteArray), false)) w := by
    intro ht
    rw [ht] at hw
    by_cases d : beginB z = true
    · simp only [if_pos d] at hw; subst hw; exact Ev.pos d (hj _ _ _ _ _)
    · simp only [if_neg d] at hw; subst hw; exact Ev.neg d (Ev.now _)
  simp only [q1, q2, q3, q4, hsz, hb, Option.bind_some, ha]
  by_cases c1 : z = [112]
  · refine Ev.pos c1 ?_
    rw [tlT, if_pos c1] at hw; subst hw; exact hj _ _ _ _ _
  refine Ev.neg c1 ?_
  by_cases c2 : z = [109]
  · refine Ev.pos c2 ?_
    rw [tlT, if_neg c1, if_pos c2] at hw; subst hw; exact hj _ _ _ _ _
  refine Ev.neg c2 ?_
  by_cases c3 : z = [109, 109]
  · refine Ev.pos c3 ?_
    rw [tlT, if_neg c1, if_neg c2, if_pos c3] at hw; subst hw; exact hj _ _ _ _ _
  refine Ev.neg c3 ?_
  by_cases c4 : z = [97, 109]
  · refine Ev.pos c4 ?_
    rw [tlT, if_neg c1, if_neg c2, if_neg c3, if_pos c4] at hw; subst hw; exact hj _ _ _ _ _
  refine Ev.neg c4 ?_
  by_cases c5 : z.length = 1
  · obtain ⟨b, rfl⟩ : ∃ b, z = [b] := List.length_eq_one_iff.1 c5
    have hc : strings_Contains.f (⟨#[48, 49, 50, 51, 52, 53, 54, 55, 56, 57]⟩ : ByteArray) (mk [b]) = some (isD b) := by
      unfold strings_Contains.f
      rw [if_pos (by decide +kernel), mk_data]
      congr 1
      exact hasDig1 b
    simp only [hc, Option.bind_some]
    refine Ev.pos (by simp) ?_
    by_cases c6 : isD b = true
    · refine Ev.pos c6 ?_
      have ht : tlT [b] = (2, mk [b], true) := by
        rw [tlT, if_neg c1, if_neg c2, if_neg c3, if_neg c4]
        exact if_pos ⟨rfl, c6⟩
      rw [ht] at hw
      subst hw; exact hj _ _ _ _ _
    · exact Ev.neg c6 (fin (by rw [tlT, if_neg c1, if_neg c2, if_neg c3, if_neg c4, if_neg fun h => c6 h.2]))
  · exact Ev.neg (by omega) (fin (by rw [tlT, if_neg c1, if_neg c2, if_neg c3, if_neg c4, if_neg fun h => c5 h.1]))
theorem PartsOf_ev (p : List UInt8) (h : asciiT (mk p) = true) (hp : p.length ≤ 1000000) : Ev (fun k => pileref1_PartsOf.f k (mk p)) (partsT p) := by
  have hsz := mk_size p
  obtain ⟨s1, s2, s3, s4, s5, s6⟩ := cut_sub p
  have hA := ascii_sub h s1
  have hZ := ascii_sub h s2
  unfold pileref1_PartsOf.f partsT
  simp only [cut_eq p hp, Option.bind_some]
  by_cases c0 : p.length > 14
  · rw [if_pos c0]; exact Ev.pos (by rw [hsz]; omega) (Ev.now _)
  rw [if_neg c0]
  refine Ev.neg (by rw [hsz]; omega) ?_
  have ea := baseAt_ev (cutA p) hA (by omega)
  by_cases c2 : cutY p = true
  · have c1 : ¬ isBase p = true := fun h => AN_no47 (base_bd h).1 (s5 c2)
    rw [if_neg c1, if_pos c2]
    refine Ev.pos c2 ?_
    have ez := baseAt_ev (cutZ p) hZ (by omega)
    have eb := begin_eq (cutA p) (by omega)
    have fin := fun (w : PT6) (hw : w = (if isBase (cutA p) = true ∧ (tlT (cutZ p)).2.2 = true then baseT (cutA p) (tlT (cutZ p)).1 (tlT (cutZ p)).2.1 else noT)) =>
      ref_tail p (cutZ p) (by omega) 0 (mk (cutA p), mk ((cutA p).take (lastD (cutA p) + 1).toNat), mk ((cutA p).drop (lastD (cutA p) + 1).toNat), 0, eB) (if (tlT (cutZ p)).2.2 = true then baseT (cutA p) (tlT (cutZ p)).1 (tlT (cutZ p)).2.1 else noT) rfl rfl
    have rest : ∀ (w : PT6), w = (if isBase (cutA p) = true ∧ (tlT (cutZ p)).2.2 = true then baseT (cutA p) (tlT (cutZ p)).1 (tlT (cutZ p)).2.1 else noT) →
        Ev (fun k => ((pileref1_baseAt.f k (mk (cutA p))).bind fun r23 => (if r23 < 0 then Option.some ((⟨#[]⟩ : ByteArray), (⟨#[]⟩ : ByteArray), (⟨#[]⟩ : ByteArray), 0, (⟨#[]⟩ : ByteArray), false) else ((pileref1_PartsOf_1.f k (mk (cutA p))).bind fun a => (if mk (cutZ p) = (⟨#[112]⟩ : ByteArray) then pileref1_PartsOf.j29 k a.1 a.2.1 a.2.2.1 3 a.2.2.2.2 else (if mk (cutZ p) = (⟨#[109]⟩ : ByteArray) then pileref1_PartsOf.j29 k a.1 a.2.1 a.2.2.1 4 a.2.2.2.2 else (if mk (cutZ p) = (⟨#[109, 109]⟩ : ByteArray) then pileref1_PartsOf.j29 k a.1 a.2.1 a.2.2.1 5 a.2.2.2.2 else (if mk (cutZ p) = (⟨#[97, 109]⟩ : ByteArray) then pileref1_PartsOf.j29 k a.1 a.2.1 a.2.2.1 6 a.2.2.2.2 else (if ((mk (cutZ p)).size : Int) = 1 then ((strings_Contains.f (⟨#[48, 49, 50, 51, 52, 53, 54, 55, 56, 57]⟩ : ByteArray) (mk (cutZ p))).bind fun r10 => (if r10 = true then pileref1_PartsOf.j29 k a.1 a.2.1 a.2.2.1 2 (mk (cutZ p)) else ((pileref1_begin.f (mk (cutZ p))).bind fun r11 => (if r11 = true then pileref1_PartsOf.j29 k a.1 a.2.1 a.2.2.1 1 (mk (cutZ p)) else Option.some ((⟨#[]⟩ : ByteArray), (⟨#[]⟩ : ByteArray), (⟨#[]⟩ : ByteArray), 0, (⟨#[]⟩ : ByteArray), false))))) else ((pileref1_begin.f (mk (cutZ p))).bind fun r14 => (if r14 = true then pileref1_PartsOf.j29 k a.1 a.2.1 a.2.2.1 1 (mk (cutZ p)) else Option.some ((⟨#[]⟩ : ByteArray), (⟨#[]⟩ : ByteArray), (⟨#[]⟩ : ByteArray), 0, (⟨#[]⟩ : ByteArray), false)))))))))))) w := by
      intro w hw
      refine Ev.bind ea ?_
      by_cases d : isBase (cutA p) = true
      · obtain ⟨b1, b2, b3, b4, b5⟩ := base_bd d
        have hq : (if isBase (cutA p) = true then lastD (cutA p) else -1) = lastD (cutA p) := if_pos d
        have e1 := PartsOf1_ev (cutA p) d
        rw [hq]
        have hw2 : w = if (tlT (cutZ p)).2.2 = true then baseT (cutA p) (tlT (cutZ p)).1 (tlT (cutZ p)).2.1 else noT := by
          rw [hw]
          by_cases d2 : (tlT (cutZ p)).2.2 = true
          · rw [if_pos ⟨d, d2⟩, if_pos d2]
          · rw [if_neg fun h => d2 h.2, if_neg d2]
        rw [hw2]
        exact Ev.neg (by omega) (Ev.bind e1 (fin w hw))
      · have hq : (if isBase (cutA p) = true then lastD (cutA p) else -1) = -1 := if_neg d
        rw [hq]
        rw [if_neg fun h => d h.1] at hw
        subst hw
        exact Ev.pos (by omega) (Ev.now _)
    refine Ev.bind ez ?_
    by_cases c3 : isBase (cutZ p) = true
    · obtain ⟨b1, b2, b3, b4, b5⟩ := base_bd c3
      have hq : (if isBase (cutZ p) = true then lastD (cutZ p) else -1) = lastD (cutZ p) := if_pos c3
      rw [hq]
      refine Ev.pos (by omega) ?_
      simp only [eb, Option.bind_some]
      by_cases c4 : beginB (cutA p) = true
      · rw [if_pos ⟨c3, c4⟩]
        exact Ev.pos c4 (Ev.bind (PartsOf1_ev (cutZ p) c3) (Ev.now _))
      · rw [if_neg fun h => c4 h.2]
        exact Ev.neg c4 (rest _ rfl)
    · have hq : (if isBase (cutZ p) = true then lastD (cutZ p) else -1) = -1 := if_neg c3
      rw [hq]
      rw [if_neg fun h => c3 h.1]
      exact Ev.neg (by omega) (rest _ rfl)
  · have c2f : cutY p = false := by simpa using c2
    have ep := s6 c2f
    rw [ep] at ea ⊢
    rw [if_neg c2]
    refine Ev.neg c2 ?_
    refine Ev.bind ea ?_
    by_cases c1 : isBase p = true
    · obtain ⟨b1, b2, b3, b4, b5⟩ := base_bd c1
      have hq : (if isBase p = true then lastD p else -1) = lastD p := if_pos c1
      rw [hq, if_pos c1]
      exact Ev.neg (by omega) (Ev.bind (PartsOf1_ev p c1) (Ev.now _))
    · have hq : (if isBase p = true then lastD p else -1) = -1 := if_neg c1
      rw [hq, if_neg c1]
      exact Ev.pos (by omega) (Ev.now _)
/-- The parts, the base and whether it is a call sign, on both sides. -/
noncomputable def isCallT (p : List UInt8) : Bool := (partsT p).2.2.2.2.2
theorem Is_ev (p : List UInt8) (hp : p.length ≤ 1000000) : Ev (fun k => call_Is.f k (mk p)) (isCallT p) := Ev.bind (Parts_ev p hp) (Ev.now _)
theorem IsCall_ev (p : List UInt8) (h : asciiT (mk p) = true) (hp : p.length ≤ 1000000) : Ev (fun k => pileref1_IsCall.f k (mk p)) (isCallT p) := Ev.bind (PartsOf_ev p h hp) (Ev.now _)
end Go.EV.Pure
namespace Go.EV.Pure
open Go Go.EV Go.RowKit
set_option linter.unusedSimpArgs false
set_option maxRecDepth 100000
theorem CallOf_spec (l : List Int) (s : Int) (h0 : 0 ≤ s) (h1 : s ≤ 4611686018427386000) (hl : l.length ≤ 140737488351232) :
    ∃ t s', Ev (fun k => pilemake_Stream_CallOf.f k l s) (mk t, l, s') ∧ asciiT (mk t) = true ∧ t.length ≤ 200 ∧ s ≤ s' ∧ s' ≤ s + 10 := by
  have j10 : ∀ (x : ByteArray) (s : Int), 0 ≤ s → s ≤ 4611686018427386900 → GS 50 x → ∃ t s', Ev (fun k => pilemake_Stream_CallOf.j10 k x l s) (mk t, l, s') ∧ asciiT (mk t) = true ∧ t.length ≤ 200 ∧ s ≤ s' ∧ s' ≤ s + 4 := by
    intro x s h0 h1 hx
    obtain ⟨b, eb⟩ := Flip_spec l s 12 h0 (by omega) (by omega) hl
    have j12 : ∀ (y : ByteArray) (s : Int), Ev (fun k => pilemake_Stream_CallOf.j12 k y l s) (y, l, s) := fun y s => Ev.from 1 fun k => rfl
    have fin : ∀ (y : ByteArray), GS 200 y → ∃ t, y = mk t ∧ asciiT (mk t) = true ∧ t.length ≤ 200 := fun y hy => ⟨y.data.toList, mk_of y, by rw [← mk_of]; exact hy.1, by rw [Array.length_toList]; exact hy.2⟩
    by_cases c : b = true
    · obtain ⟨r, s', er, hr, q1, q2⟩ := Changed_GS 50 l (s + 1) x (⟨#[97, 48, 47, 107, 49, 45]⟩ : ByteArray) (by omega) (by omega) hl hx (by omega) ⟨by decide +kernel, by decide +kernel⟩ (by decide +kernel)
      have hr : GS 200 r := by
        rcases hr with hr | rfl
        · exact hr.mono (by omega)
        · exact ⟨by decide +kernel, by decide +kernel⟩
      obtain ⟨t, rfl, t1, t2⟩ := fin r hr
      refine ⟨t, s', Ev.succ ?_, t1, t2, by omega, by omega⟩
      simp only [pilemake_Stream_CallOf.j10]
      exact Ev.bind eb (Ev.pos c (Ev.bind er (j12 _ _)))
    · obtain ⟨t, rfl, t1, t2⟩ := fin x (hx.mono (by omega))
      refine ⟨t, s + 1, Ev.succ ?_, t1, t2, by omega, by omega⟩
      simp only [pilemake_Stream_CallOf.j10]
      exact Ev.bind eb (Ev.neg c (j12 _ _))
  unfold pilemake_Stream_CallOf.f
  obtain ⟨b, e1, g1⟩ := Some_GS 10 l s [(⟨#[107, 49, 97, 98]⟩ : ByteArray), (⟨#[107, 52, 97, 98]⟩ : ByteArray), (⟨#[111, 104, 50, 97, 98, 99]⟩ : ByteArray), (⟨#[111, 104, 48, 120]⟩ : ByteArray), (⟨#[51, 100, 97, 48, 120, 121]⟩ : ByteArray), (⟨#[103, 51, 97]⟩ : ByteArray), (⟨#[100, 108, 49, 122, 122]⟩ : ByteArray), (⟨#[119, 49, 97, 119]⟩ : ByteArray), (⟨#[107, 49, 98, 97]⟩ : ByteArray)] h0 (by omega) hl (by simp) (by simp) (by decide +kernel)
  obtain ⟨n, e2, n0, n1⟩ := Next_spec l (s + 1) 9 (by omega) (by omega) (by omega) hl
  have zb := g1.2
  have sl : GS 1 (⟨#[47]⟩ : ByteArray) := ⟨by decide +kernel, by decide +kernel⟩
  by_cases c0 : n = 0
  · obtain ⟨a, e3, g3⟩ := Some_GS 10 l (s + 1 + 1) [(⟨#[47, 112]⟩ : ByteArray), (⟨#[47, 109]⟩ : ByteArray), (⟨#[47, 109, 109]⟩ : ByteArray), (⟨#[47, 97, 109]⟩ : ByteArray), (⟨#[47, 52]⟩ : ByteArray), (⟨#[47, 48]⟩ : ByteArray)] (by omega) (by omega) hl (by simp) (by simp) (by decide +kernel)
    obtain ⟨t, s', e4, t1, t2, q1, q2⟩ := j10 (b ++ a) (s + 1 + 1 + 1) (by omega) (by omega) ((g1.app g3).mono (by omega))
    have za := g3.2
    exact ⟨t, s', Ev.bind e1 (Ev.bind e2 (Ev.pos c0 (Ev.bind e3 (Ev.pos (by simp only; omega) e4)))), t1, t2, by omega, by omega⟩
  by_cases c1 : n = 1
  · obtain ⟨a, e3, g3⟩ := Some_GS 10 l (s + 1 + 1) [(⟨#[111, 104, 48]⟩ : ByteArray), (⟨#[103]⟩ : ByteArray), (⟨#[51, 97]⟩ : ByteArray), (⟨#[100, 108]⟩ : ByteArray)] (by omega) (by omega) hl (by simp) (by simp) (by decide +kernel)
    obtain ⟨t, s', e4, t1, t2, q1, q2⟩ := j10 ((a ++ (⟨#[47]⟩ : ByteArray)) ++ b) (s + 1 + 1 + 1) (by omega) (by omega) (((g3.app sl).app g1).mono (by omega))
    have za := g3.2
    have zc := (g3.app sl).2
    have zs := sl.2
    exact ⟨t, s', Ev.bind e1 (Ev.bind e2 (Ev.neg c0 (Ev.pos c1 (Ev.bind e3 (Ev.pos (by simp only; omega) (Ev.pos (by simp only; omega) e4)))))), t1, t2, by omega, by omega⟩
  by_cases c2 : n = 2
  · obtain ⟨a, e3, g3⟩ := Some_GS 10 l (s + 1 + 1) [(⟨#[111, 104, 48]⟩ : ByteArray), (⟨#[103]⟩ : ByteArray), (⟨#[119, 50, 98]⟩ : ByteArray), (⟨#[107]⟩ : ByteArray)] (by omega) (by omega) hl (by simp) (by simp) (by decide +kernel)
    obtain ⟨t, s', e4, t1, t2, q1, q2⟩ := j10 ((b ++ (⟨#[47]⟩ : ByteArray)) ++ a) (s + 1 + 1 + 1) (by omega) (by omega) (((g1.app sl).app g3).mono (by omega))
    have za := g3.2
    have zc := (g1.app sl).2
    have zs := sl.2
    exact ⟨t, s', Ev.bind e1 (Ev.bind e2 (Ev.neg c0 (Ev.neg c1 (Ev.pos c2 (Ev.pos (by simp only; omega) (Ev.bind e3 (Ev.pos (by simp only; omega) e4))))))), t1, t2, by omega, by omega⟩
  · obtain ⟨t, s', e4, t1, t2, q1, q2⟩ := j10 b (s + 1 + 1) (by omega) (by omega) (g1.mono (by omega))
    exact ⟨t, s', Ev.bind e1 (Ev.bind e2 (Ev.neg c0 (Ev.neg c1 (Ev.neg c2 e4)))), t1, t2, by omega, by omega⟩
end Go.EV.Pure
namespace Go.EV.Pure
open Go Go.EV Go.RowKit
set_option linter.unusedSimpArgs false
set_option maxRecDepth 100000
theorem k1ab_ok : isCallT [107, 49, 97, 98] = true := by
  have e1 : Ev (fun k => pileref1_IsCall.f k (⟨#[107, 49, 97, 98]⟩ : ByteArray)) true := Ev.from 100 fun k => (by kernel_rfl : pileref1_IsCall.f (k + 100) (⟨#[107, 49, 97, 98]⟩ : ByteArray) = some true)
  exact (IsCall_ev [107, 49, 97, 98] (by decide +kernel) (by simp)).uniq e1
theorem RightCall_spec (l : List Int) (hl : l.length ≤ 140737488351232) : ∀ (d : Nat) (i : Int) (s : Int), i + d = 6 → 0 ≤ i → 0 ≤ s → s ≤ 4611686018427380000 + 10 * i →
    ∃ t s', Ev (fun k => pilemake_Stream_RightCall.l0 k i l s) (mk t, l, s') ∧ asciiT (mk t) = true ∧ t.length ≤ 200 ∧ isCallT t = true ∧ s ≤ s' ∧ s' ≤ s + 10 * d := by
  intro d
  induction d with
  | zero =>
    intro i s hi i0 h0 h1
    refine ⟨[107, 49, 97, 98], s, ?_, by decide +kernel, by simp, k1ab_ok, by omega, by omega⟩
    refine Ev.step (f := fun _ => some _) (fun k => ?_) (Ev.now _)
    simp only [pilemake_Stream_RightCall.l0]
    rw [if_neg (by omega)]
    rfl
  | succ d ih =>
    intro i s hi i0 h0 h1
    obtain ⟨t, s', e1, t1, t2, q1, q2⟩ := CallOf_spec l s h0 (by omega) hl
    have e2 := IsCall_ev t t1 (by omega)
    by_cases c : isCallT t = true
    · refine ⟨t, s', Ev.succ ?_, t1, t2, c, by omega, by omega⟩
      simp only [pilemake_Stream_RightCall.l0]
      exact Ev.pos (by omega) (Ev.bind e1 (Ev.bind e2 (Ev.pos c (Ev.now _))))
    · obtain ⟨t', s'', e3, r1, r2, r3, r4, r5⟩ := ih (i + 1) s' (by omega) (by omega) (by omega) (by omega)
      refine ⟨t', s'', Ev.succ ?_, r1, r2, r3, by omega, by omega⟩
      simp only [pilemake_Stream_RightCall.l0, wrap_id (e := i + 1) (by omega) (by omega)]
      exact Ev.pos (by omega) (Ev.bind e1 (Ev.bind e2 (Ev.neg c e3)))
end Go.EV.Pure
namespace Go.EV.Pure
open Go Go.EV Go.RowKit
set_option linter.unusedSimpArgs false
set_option linter.unusedVariables false
set_option maxRecDepth 100000
/-! A call sign that is keyed, and those that it can be mistaken for. -/
theorem h06_ev : Ev (fun k => piletop_h06facts.f k) true := Ev.from 300 fun k => (by kernel_rfl : piletop_h06facts.f (k + 300) = some true)
theorem index_split (c : UInt8) : ∀ p : List UInt8, 0 ≤ Lib.index p [c] → p = p.take (Lib.index p [c]).toNat ++ c :: p.drop ((Lib.index p [c]).toNat + 1)
  | [], h => by simp [Lib.index] at h
  | b :: l, h => by
    have ih := index_split c l
    unfold Lib.index at h ⊢
    by_cases e : b = c
    · subst e
      simp [List.isPrefixOf]
    · have hp : ([c] : List UInt8).isPrefixOf (b :: l) = false := by
        simp only [List.isPrefixOf, Bool.and_true, beq_eq_false_iff_ne]
        exact fun h => e h.symm
      rw [hp] at h ⊢
      simp only [Bool.false_eq_true, if_false] at h ⊢
      by_cases d : Lib.index l [c] = -1
      · rw [d] at h; simp at h
      · have d' : (Lib.index l [c] == -1) = false := by simpa using d
        rw [d'] at h ⊢
        simp only [Bool.false_eq_true, if_false] at h ⊢
        have hg := Lib.index_ge l [c]
        have e1 : (Lib.index l [c] + 1).toNat = (Lib.index l [c]).toNat + 1 := by omega
        rw [e1]
        simpa using ih (by omega)
theorem cut_cover {p : List UInt8} (h : cutY p = true) : ∀ b ∈ p, b ∈ cutA p ∨ b = 47 ∨ b ∈ cutZ p := by
  unfold cutA cutZ cutY Lib.cut at *
  by_cases c : 0 ≤ Lib.index p [47]
  · rw [if_pos c] at h ⊢
    intro b hb
    have e := index_split 47 p c
    rw [e] at hb
    rcases List.mem_append.1 hb with hb | hb
    · exact .inl hb
    · rcases List.mem_cons.1 hb with hb | hb
      · exact .inr (.inl hb)
      · exact .inr (.inr hb)
  · rw [if_neg c] at h; cases h
theorem AN_at {p : List UInt8} (h : AN p = true) {b : UInt8} (hb : b ∈ p) : (isL b || isD b) = true := by
  rw [AN, List.all_eq_true] at h
  exact h b hb
theorem tail_AN {p : List UInt8} (h : (tlT p).2.2 = true) : AN p = true := by
  unfold tlT at h
  split at h
  · rename_i c; subst c; decide
  · split at h
    · rename_i c; subst c; decide
    · split at h
      · rename_i c; subst c; decide
      · split at h
        · rename_i c; subst c; decide
        · split at h
          · rename_i c
            obtain ⟨x, rfl⟩ : ∃ x, p = [x] := List.length_eq_one_iff.1 c.1
            have hx : isD x = true := c.2
            simp [AN, hx]
          · simp only at h
            unfold beginB at h
            simp only [Bool.and_eq_true] at h
            exact h.1.1
theorem begin_AN {p : List UInt8} (h : beginB p = true) : AN p = true := by
  unfold beginB at h
  simp only [Bool.and_eq_true] at h
  exact h.1.1
def isC (b : UInt8) : Bool := (isL b || isD b) || decide (b = 47)
theorem call_bytes {p : List UInt8} (h : isCallT p = true) : p.length ≤ 14 ∧ p ≠ [] ∧ ∀ b ∈ p, isC b = true := by
  have hAN : ∀ {q : List UInt8} {b : UInt8}, AN q = true → b ∈ q → isC b = true := fun h1 h2 => by unfold isC; rw [AN_at h1 h2]; rfl
  unfold isCallT at h
  unfold partsT at h
  split at h
  · cases h
  · rename_i c0
    have h14 : p.length ≤ 14 := by omega
    split at h
    · rename_i c1
      have hb := base_bd c1
      exact ⟨h14, fun e => by rw [e] at hb; simp at hb; omega, fun b hb2 => hAN hb.1 hb2⟩
    · split at h
      · rename_i c2
        have hne : p ≠ [] := fun e => by
          have := (cut_sub p).2.2.2.2.1 c2
          rw [e] at this
          cases this
        refine ⟨h14, hne, fun b hb => ?_⟩
        have hcov := cut_cover c2 b hb
        split at h
        · rename_i c3
          rcases hcov with h1 | rfl | h1
          · exact hAN (begin_AN c3.2) h1
          · decide
          · exact hAN (base_bd c3.1).1 h1
        · split at h
          · rename_i c4
            rcases hcov with h1 | rfl | h1
            · exact hAN (base_bd c4.1).1 h1
            · decide
            · exact hAN (tail_AN c4.2) h1
          · cases h
      · cases h
theorem isC_sign : ∀ b : UInt8, isC b = true → isSign b = true ∧ b ≠ 32 := all_bytes (by decide +kernel)
theorem words_one : ∀ c : List UInt8, (32 : UInt8) ∉ c → wordsOf c = [c]
  | [], _ => rfl
  | b :: c, h => by
    have hb : ¬ b = 32 := fun e => h (by simp [e])
    rw [wordsOf, if_neg hb, words_one c (fun h' => h (by simp [h']))]
theorem call_said {p : List UInt8} (h : isCallT p = true) : saidF p = 0 ∧ wordsOf p = [p] := by
  obtain ⟨h1, h2, h3⟩ := call_bytes h
  have hw : wordsOf p = [p] := words_one p (fun h32 => (isC_sign 32 (h3 32 h32)).2 rfl)
  refine ⟨?_, hw⟩
  unfold saidF
  rw [if_neg (by omega), if_neg, if_pos]
  · unfold allS
    rw [hw]
    simp only [List.all_cons, List.all_nil, Bool.and_true, List.all_eq_true]
    exact fun b hb => (isC_sign b (h3 b hb)).1
  · unfold badW
    rw [hw]
    simp [h2]
/-! one element -/
theorem lev_zero (a b : Nat → Int) : ∀ n i j, i + j ≤ n → lev a b i j = 0 → i = j ∧ ∀ m, m < i → a m = b m := by
  intro n
  induction n with
  | zero => intro i j h _; exact ⟨by omega, fun m hm => by omega⟩
  | succ n ih =>
    intro i j h h0
    cases i with
    | zero => rw [lev] at h0; exact ⟨by omega, fun m hm => by omega⟩
    | succ i =>
      cases j with
      | zero => rw [lev] at h0; omega
      | succ j =>
        have h1 := lev_bd a b _ i (j + 1) (Nat.le_refl _)
        have h2 := lev_bd a b _ (i + 1) j (Nat.le_refl _)
        have h3 := lev_bd a b _ i j (Nat.le_refl _)
        have m1 := mn_le (lev a b i (j + 1) + 1) (lev a b (i + 1) j + 1)
        rw [lev] at h0
        have hz : lev a b i j = 0 ∧ a i = b j := by
          by_cases c : a i = b j
          · rw [if_pos c] at h0
            have m2 := mn_le (mn (lev a b i (j + 1) + 1) (lev a b (i + 1) j + 1)) (lev a b i j + 0)
            exact ⟨by omega, c⟩
          · rw [if_neg c] at h0
            have m2 := mn_le (mn (lev a b i (j + 1) + 1) (lev a b (i + 1) j + 1)) (lev a b i j + 1)
            omega
        obtain ⟨e, hm⟩ := ih i j (by omega) hz.1
        refine ⟨by omega, fun m hm2 => ?_⟩
        by_cases c : m = i
        · rw [c, hz.2, e]
        · exact hm m (by omega)
theorem lev_diag (a b : Nat → Int) (i : Nat) : lev a b (i + 1) (i + 1) ≤ lev a b i i + if a i = b i then 0 else 1 := by
  rw [lev]
  exact (mn_le _ _).2.1
theorem lev_same (a b : Nat → Int) (n : Nat) (h : ∀ m, m < n → a m = b m) : lev a b n n = 0 := by
  have h0 := (lev_bd a b _ n n (Nat.le_refl _)).1
  have : ∀ i, i ≤ n → lev a b i i ≤ 0 := by
    intro i
    induction i with
    | zero => intro _; rw [lev]; omega
    | succ i ih =>
      intro hi
      have h1 := lev_diag a b i
      rw [if_pos (h i (by omega))] at h1
      have := ih (by omega)
      omega
  have := this n (Nat.le_refl _)
  omega
theorem lev_one (a b : Nat → Int) (n c : Nat) (hc : c < n) (hne : a c ≠ b c) (h : ∀ m, m < n → m ≠ c → a m = b m) : lev a b n n = 1 := by
  have hle : ∀ i, i ≤ n → lev a b i i ≤ if c < i then 1 else 0 := by
    intro i
    induction i with
    | zero => intro _; rw [lev]; simp
    | succ i ih =>
      intro hi
      have h1 := lev_diag a b i
      have h2 := ih (by omega)
      by_cases e : i = c
      · subst e
        rw [if_neg (by omega)] at h2
        rw [if_neg hne] at h1
        rw [if_pos (by omega)]
        omega
      · rw [if_pos (h i (by omega) e)] at h1
        by_cases e2 : c < i
        · rw [if_pos e2] at h2; rw [if_pos (by omega)]; omega
        · rw [if_neg e2] at h2; rw [if_neg (by omega)]; omega
  have h1 := hle n (Nat.le_refl _)
  rw [if_pos hc] at h1
  have h2 := (lev_bd a b _ n n (Nat.le_refl _)).1
  have h3 : lev a b n n ≠ 0 := fun h0 => hne ((lev_zero a b _ n n (Nat.le_refl _) h0).2 c hc)
  omega
def oneSub (p q : List UInt8) : Bool := decide (p.length = q.length) && (List.range p.length).any fun c => (List.range p.length).all fun m => decide (p.getD m 0 = q.getD m 0) == decide (m ≠ c)
theorem has_one : ∀ b : UInt8, isC b = true → (List.range 40).any (fun j => oneSub (codeL b) (codesL.getD j [])) = true := all_bytes (by decide +kernel)
theorem code_sign : ∀ j : Fin 40, codeL (signsL.getD j.val 0) = codesL.getD j.val [] := by decide +kernel
def levB (p q : ByteArray) : Int := lev (fun i => bt p i) (fun j => bt q j) p.size q.size
theorem bt_getD (p : List UInt8) (m : Nat) (h : m < p.length) : bt (mk p) (m : Int) = ((p.getD m 0).toNat : Int) := by
  rw [mk_bt p m h]
  simp [List.getD, List.getElem?_eq_getElem h]
theorem levB_one {p q : List UInt8} (h : oneSub p q = true) : levB (mk p) (mk q) = 1 := by
  unfold oneSub at h
  simp only [Bool.and_eq_true, decide_eq_true_eq, List.any_eq_true, List.mem_range, List.all_eq_true, beq_iff_eq] at h
  obtain ⟨hl, c, hc, hm⟩ := h
  unfold levB
  rw [mk_size, mk_size, ← hl]
  refine lev_one _ _ p.length c hc ?_ (fun m hm1 hm2 => ?_)
  · have := hm c hc
    simp only [ne_eq, not_true_eq_false, decide_false, decide_eq_false_iff_not] at this
    simp only [bt_getD p c hc, bt_getD q c (by omega)]
    intro e
    exact this (UInt8.toNat_inj.1 (by omega))
  · have := hm m hm1
    simp only [hm2, ne_eq, not_false_eq_true, decide_true, decide_eq_true_eq] at this
    simp only [bt_getD p m hm1, bt_getD q m (by omega), this]
theorem levB_same (p : ByteArray) : levB p p = 0 := lev_same _ _ _ fun _ _ => rfl
theorem cl_len (j : Nat) : (codesL.getD j []).length ≤ 6 := by
  by_cases h : j < 40
  · have : ∀ j : Fin 40, (codesL.getD j.val []).length ≤ 6 := by decide +kernel
    exact this ⟨j, h⟩
  · simp [List.getD, List.getElem?_eq_none (show codesL.length ≤ j by rw [codesL_len]; omega)]
/-- What t may be taken for. -/
def Mis (t : List UInt8) (v : ByteArray) : Prop := ∃ (i : Nat) (c : UInt8), ∃ h : i < t.length, c ≠ t[i] ∧ v = mk (t.set i c)
theorem set_cat (t : List UInt8) (i : Nat) (c : UInt8) (h : i < t.length) : (mk t).extract 0 i ++ mk [c] ++ (mk t).extract (i + 1) t.length = mk (t.set i c) := by
  rw [mk_extract, mk_extract, mk_append, mk_append, List.take_length, List.drop_zero, List.set_eq_take_append_cons_drop, if_pos h]
  simp
theorem mis_in (t : List UInt8) (ht : t.length ≤ 10) (i : Nat) (hi : i < t.length) (Q : List ByteArray × Int → Prop)
    (hk : ∀ o, o.length ≤ 40 * (i + 1) → (∀ x ∈ o, Mis t x) → o ≠ [] → ∃ v, Q v ∧ Ev (fun k => key_Mistaken.l0 k (mk t) ((i + 1 : Nat) : Int) o byL) v) (d : Nat) :
    ∀ (j : Nat) (o : List ByteArray), j + d = 40 → o.length ≤ 40 * i + j → (∀ x ∈ o, Mis t x) → (o ≠ [] ∨ (List.range 40).any (fun m => decide (j ≤ m) && oneSub (codeL t[i]) (codesL.getD m [])) = true) → ∃ v, Q v ∧ Ev (fun k => key_Mistaken.l1 k (mk t) (i : Int) byL sgL 40 (j : Int) o) v := by
  have hsg : sgL.length = 40 := rfl
  have hsz := mk_size t
  induction d with
  | zero =>
    intro j o hj h1 h2 h3
    obtain rfl : j = 40 := by omega
    obtain ⟨v, hQ, hv⟩ := hk o (by omega) h2 (h3.resolve_right fun h => by
      rw [List.any_eq_true] at h
      obtain ⟨m, hm, hm2⟩ := h
      simp only [List.mem_range, Bool.and_eq_true, decide_eq_true_eq] at hm hm2
      omega)
    refine ⟨v, hQ, Ev.succ ?_⟩
    simp only [key_Mistaken.l1, wrap_succ (show i ≤ 1000000000000000 by omega)]
    exact Ev.neg (by omega) hv
  | succ d ih =>
    intro j o hj h1 h2 h3
    have hjl : j < 40 := by omega
    have hr : rdE e_SS sgL (j : Int) = (mk [signsL.getD j 0], mk (codesL.getD j [])) := by rw [rdE_get e_SS sgL j (by rw [hsg]; omega), sgL_at j hjl]
    have hb : bt (mk t) (i : Int) = (t[i].toNat : Int) := mk_bt t i hi
    have hst := steps_ev (mk (codeL t[i])) (mk (codesL.getD j [])) (by rw [mk_size]; have := (code_facts t[i]).2.2.1; omega) (by rw [mk_size]; have := cl_len j; omega)
    have hst : Ev (fun k => key_steps.f k (mk (codeL t[i])) (mk (codesL.getD j []))) (levB (mk (codeL t[i])) (mk (codesL.getD j []))) := hst
    have next : ∀ o', o'.length ≤ 40 * i + (j + 1) → (∀ x ∈ o', Mis t x) → (o' ≠ [] ∨ (List.range 40).any (fun m => decide (j + 1 ≤ m) && oneSub (codeL t[i]) (codesL.getD m [])) = true) → ∃ v, Q v ∧ Ev (fun k => key_Mistaken.j18 k (mk t) (i : Int) byL sgL 40 (j : Int) o') v := fun o' q1 q2 q3 => by
      obtain ⟨v, hQ, hv⟩ := ih (j + 1) o' (by omega) q1 q2 q3
      exact ⟨v, hQ, Ev.step (fun k => by simp only [key_Mistaken.j18, wrap_succ (show j ≤ 1000000000000000 by omega)]) hv⟩
    by_cases c : levB (mk (codeL t[i])) (mk (codesL.getD j [])) = 1
    · obtain ⟨v, hQ, hv⟩ := next (o ++ [mk (t.set i (signsL.getD j 0))]) (by simp; omega) (fun x hx => by
        rcases List.mem_append.1 hx with hx | hx
        · exact h2 x hx
        · obtain rfl : x = mk (t.set i (signsL.getD j 0)) := by simpa using hx
          refine ⟨i, signsL.getD j 0, hi, fun e => ?_, rfl⟩
          have hcs := code_sign ⟨j, hjl⟩
          simp only [e] at hcs
          rw [← hcs, levB_same] at c
          omega) (.inl (by simp))
      refine ⟨v, hQ, Ev.succ ?_⟩
      simp only [key_Mistaken.l1, hr, hb, mget_by, hsg, hsz]
      refine Ev.pos (by omega) (Ev.pos (by omega) (Ev.pos (by omega) (Ev.pos (by omega) (Ev.pos (by omega) (Ev.bind hst (Ev.pos c ?_))))))
      simp only [Int.toNat_natCast, wrap_succ (show i ≤ 1000000000000000 by omega), set_cat t i (signsL.getD j 0) hi]
      have hx1 : ((mk t).extract 0 i).size + (mk [signsL.getD j 0]).size ≤ 100 := by rw [mk_extract, mk_size, mk_size]; simp; omega
      have hx2 : ((mk t).extract 0 i ++ mk [signsL.getD j 0]).size + ((mk t).extract (i + 1) t.length).size ≤ 100 := by rw [mk_extract, mk_extract, mk_append, mk_size, mk_size]; simp; omega
      exact Ev.pos (by omega) (Ev.pos (by omega) (Ev.pos (by omega) (Ev.pos (by omega) (Ev.pos (by omega) (Ev.pos (by omega) (Ev.pos (by omega) hv))))))
    · obtain ⟨v, hQ, hv⟩ := next o (by omega) h2 (by
        rcases h3 with h3 | h3
        · exact .inl h3
        · refine .inr ?_
          rw [List.any_eq_true] at h3 ⊢
          obtain ⟨m, hm, hm2⟩ := h3
          simp only [Bool.and_eq_true, decide_eq_true_eq] at hm2
          refine ⟨m, hm, ?_⟩
          have hne : j ≠ m := fun e => by
            subst e
            exact c (levB_one hm2.2)
          simp only [hm2.2, Bool.and_true, decide_eq_true_eq]
          omega)
      refine ⟨v, hQ, Ev.succ ?_⟩
      simp only [key_Mistaken.l1, hr, hb, mget_by, hsg, hsz]
      exact Ev.pos (by omega) (Ev.pos (by omega) (Ev.pos (by omega) (Ev.pos (by omega) (Ev.pos (by omega) (Ev.bind hst (Ev.neg c hv))))))
theorem Mistaken_ev (t : List UInt8) (ht : t.length ≤ 10) (hn : t ≠ []) (hC : ∀ b ∈ t, isC b = true) (hs : saidF t = 0) : ∃ m, Ev (fun k => key_Mistaken.f k (mk t)) (m, 0) ∧ m ≠ [] ∧ m.length ≤ 1000 ∧ ∀ v ∈ m, Mis t v := by
  have hsz := mk_size t
  have hl1 : 1 ≤ t.length := List.length_pos_iff.2 hn
  have run : ∀ (d i : Nat) (o : List ByteArray), i + d = t.length → o.length ≤ 40 * i → (∀ x ∈ o, Mis t x) → (1 ≤ i → o ≠ []) → ∃ v : List ByteArray × Int, (v.2 = 0 ∧ v.1 ≠ [] ∧ v.1.length ≤ 1000 ∧ ∀ x ∈ v.1, Mis t x) ∧ Ev (fun k => key_Mistaken.l0 k (mk t) (i : Int) o byL) v := by
    intro d
    induction d with
    | zero =>
      intro i o hi h1 h2 h3
      refine ⟨(o, 0), ⟨rfl, h3 (by omega), by simp only; omega, h2⟩, Ev.succ ?_⟩
      simp only [key_Mistaken.l0, hsz]
      exact Ev.neg (by omega) (Ev.now _)
    | succ d ih =>
      intro i o hi h1 h2 h3
      have hil : i < t.length := by omega
      have hone := has_one t[i] (hC _ (List.getElem_mem hil))
      obtain ⟨v, hQ, hv⟩ := mis_in t ht i hil _ (fun o' a1 a2 a3 => ih (i + 1) o' (by omega) a1 a2 (fun _ => a3)) 40 0 o (by omega) (by omega) h2 (.inr (by simpa using hone))
      refine ⟨v, hQ, Ev.succ ?_⟩
      simp only [key_Mistaken.l0, hsz]
      exact Ev.pos (by omega) (Ev.bind Codes_sg hv)
  obtain ⟨v, ⟨q1, q2, q3, q4⟩, hv⟩ := run t.length 0 [] (by omega) (by simp) (fun x hx => by cases hx) (fun h => by omega)
  obtain ⟨m, e⟩ := v
  simp only at q1 q2 q3 q4
  subst q1
  refine ⟨m, ?_, q2, q3, q4⟩
  have e4 := CheckSaid_ev t (by omega)
  rw [hs] at e4
  have hcon : strings_Contains.f (mk t) (⟨#[32]⟩ : ByteArray) = some false := by
    unfold strings_Contains.f
    rw [if_pos (by rw [hsz]; omega), mk_data]
    have : Lib.contains t [32] = false := by
      unfold Lib.contains
      rw [index_miss t (fun h32 => (isC_sign 32 (hC 32 h32)).2 rfl)]
      rfl
    exact congrArg some this
  unfold key_Mistaken.f
  simp only [hcon, Option.bind_some]
  exact Ev.bind e4 (Ev.pos rfl (Ev.neg (by omega) (Ev.neg Bool.false_ne_true (Ev.bind byBytes_ev hv))))
theorem Mis_steps {t : List UInt8} (ht : t.length ≤ 14) {v : ByteArray} (h : Mis t v) : ∃ p : List UInt8, v = mk p ∧ p.length ≤ 14 ∧ Ev (fun k => call_Steps.f k (mk t) v) 1 := by
  obtain ⟨i, c, hi, hne, rfl⟩ := h
  refine ⟨t.set i c, rfl, by rw [List.length_set]; omega, ?_⟩
  have := cSteps_ev (mk t) (mk (t.set i c)) (by rw [mk_size]; omega) (by rw [mk_size, List.length_set]; omega)
  rw [mk_size, mk_size, List.length_set, osa_one _ _ t.length i hi] at this
  · exact this
  · rw [mk_bt t i hi, mk_bt (t.set i c) i (by rw [List.length_set]; exact hi), List.getElem_set_self]
    intro e
    exact hne (UInt8.toNat_inj.1 (by omega))
  · intro m hm hm2
    rw [mk_bt t m hm, mk_bt (t.set i c) m (by rw [List.length_set]; exact hm), List.getElem_set_ne (Ne.symm hm2)]
theorem TopCallsAreKeyed (l : List Int) (hl : l.length ≤ 140737488351232) : ∃ k, piletop_TopCallsAreKeyed.f k l = some true := by
  obtain ⟨t, s', e1, t1, t2, hc, q1, q2⟩ := RightCall_spec l hl 6 0 0 (by omega) (by omega) (by omega) (by omega)
  obtain ⟨u, e2, m2⟩ := Pick_spec l s' [1, 60, 150] (by omega) (by omega) hl (by simp) (by simp)
  simp only [List.mem_cons, List.not_mem_nil, or_false] at m2
  have hu : 1 ≤ u ∧ u ≤ 150 := by omega
  obtain ⟨hs, hw⟩ := call_said hc
  obtain ⟨h14, hne, hC⟩ := call_bytes hc
  have e4 := CheckSaid_ev t (by omega)
  rw [hs] at e4
  have hR : Ev (fun k => (piletop_h06facts.f k).bind fun r => Option.some r) true := Ev.bind h06_ev (Ev.now _)
  obtain ⟨h500, _, hx⟩ := said_all hs
  have hF := elT_len u u (wordsOf t)
  rw [words_sum t] at hF
  have el := lengths_ev t h500 u u (by omega) (by omega)
  have eK : Ev (fun k => key_Key.f k (mk t) u u) (elT u u (wordsOf t), 0) := by
    unfold key_Key.f
    simp only [Out_f (show 1 ≤ u ∧ u ≤ 2000 by omega), Out_f (show u ≤ u ∧ u ≤ 2000 by omega), Option.bind_some]
    exact Ev.bind e4 (Ev.pos rfl (Ev.neg Bool.false_ne_true (Ev.neg Bool.false_ne_true (Ev.bind el (Ev.now _)))))
  have hMK : MK 100000 (elT u u (wordsOf t)) := ⟨by omega, elT_all u u 100000 (by omega) (by omega) (wordsOf t)⟩
  have hodd := elT_odd u u (wordsOf t) (by rw [hw]; simp) hx
  have hEv := Even_elT (u := u) (wordsOf t) hx
  have hoff := off_even hu.1 _ 0 hEv
  have eW := With_ev _ u hMK hodd (by omega)
  rw [read_back hu.1 t hx, hoff] at eW
  have hsz := mk_size t
  have e1' : Ev (fun k => pilemake_Stream_RightCall.f k l 0) (mk t, l, s') := e1
  by_cases c10 : t.length > 10
  · exact (Ev.bind e1' (Ev.bind e2 (Ev.bind eK (Ev.bind eW (Ev.pos rfl (Ev.pos rfl (Ev.pos rfl (Ev.pos rfl (Ev.pos (by simp only [hsz]; omega) hR))))))))).ex
  · obtain ⟨m, eM, m1, m3, m4⟩ := Mistaken_ev t (by omega) hne hC hs
    have hm1 : 1 ≤ m.length := List.length_pos_iff.2 m1
    obtain ⟨v, rfl, eL⟩ := loop m (fun k i (_ : Unit) => piletop_TopCallsAreKeyed.l0 k (mk t) m (m.length : Int) i) (fun _ _ => True) (fun v => v = true)
      (fun i _ hi _ => .inl ⟨(), trivial, fun v hv => by
        obtain ⟨p, hp, hpl, hst⟩ := Mis_steps (by omega) (m4 _ (List.getElem_mem hi))
        have hr : rdE eS m (i : Int) = mk p := by rw [rdE_get eS m i hi, hp]
        rw [hp] at hst
        have hIv := Is_ev p (by omega)
        refine Ev.succ ?_
        simp only [piletop_TopCallsAreKeyed.l0, hr, wrap_succ (show i ≤ 1000000000000000 by omega)]
        refine Ev.pos (by omega) (Ev.pos (by omega) (Ev.pos (by omega) (Ev.bind hIv (Ev.ite (fun hic => ?_) (fun hic => hv)))))
        rw [hic] at hIv
        have hIt := Is_ev t (by omega)
        rw [hc] at hIt
        have eD : Ev (fun k => call_Distance.f k (mk t) (mk p)) (1, 0) := by
          unfold call_Distance.f
          exact Ev.bind hIt (Ev.pos rfl (Ev.bind hIv (Ev.pos rfl (Ev.bind hst (Ev.now _)))))
        exact Ev.bind eD (Ev.pos rfl (Ev.pos rfl hv))⟩)
      (fun _ _ => ⟨true, rfl, Ev.succ (by simp only [piletop_TopCallsAreKeyed.l0]; exact Ev.neg (by omega) hR)⟩) 0 () (by omega) trivial
    exact (Ev.bind e1' (Ev.bind e2 (Ev.bind eK (Ev.bind eW (Ev.pos rfl (Ev.pos rfl (Ev.pos rfl (Ev.pos rfl (Ev.neg (by simp only [hsz]; omega) (Ev.bind eM (Ev.pos rfl (Ev.neg (by simp only; omega) eL)))))))))))).ex
end Go.EV.Pure
