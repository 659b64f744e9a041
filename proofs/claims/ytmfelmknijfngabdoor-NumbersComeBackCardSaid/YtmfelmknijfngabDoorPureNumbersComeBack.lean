/- The plain law: the Lean functions answer true for every list. -/
import Derived.Test.YtmfelmknijfngabDoorXNumbersComeBack
import Derived.KernelRfl
import Derived.Lib.ItoaMem
set_option linter.unusedVariables false
set_option linter.unusedSimpArgs false
/-! Plain laws that all statements use: numbers that don't wrap, functions with fuel, loops over lists, the stream's draws. -/
namespace Go.EV.Pure
open Go Go.EV Go.RowKit
theorem wrap_id {e : Int} (h1 : -9223372036854775808 ≤ e) (h2 : e ≤ 9223372036854775807) : wrap64 e = e := by
  unfold wrap64
  omega
theorem tmod_pos {a n : Int} (h : 0 ≤ a) : a.tmod n = a % n := Int.tmod_eq_emod_of_nonneg h
theorem tdiv_pos {a n : Int} (h : 0 ≤ a) : a.tdiv n = a / n := Int.tdiv_eq_ediv_of_nonneg h
/-- From some fuel on the function answers v. -/
def Ev {α : Type} (f : Nat → Option α) (v : α) : Prop := ∃ K, ∀ k, K ≤ k → f k = some v
section
variable {α β : Type}
theorem Ev.now (v : α) : Ev (fun _ => some v) v := ⟨0, fun _ _ => rfl⟩
theorem Ev.from {f : Nat → Option α} {v : α} (n : Nat) (h : ∀ k, f (k + n) = some v) : Ev f v := ⟨n, fun k hk => by
  obtain ⟨m, rfl⟩ : ∃ m, k = m + n := ⟨k - n, by omega⟩
  exact h m⟩
theorem Ev.bind {f : Nat → Option α} {a : α} {g : Nat → α → Option β} {v : β} (h : Ev f a) (h2 : Ev (fun k => g k a) v) : Ev (fun k => (f k).bind (g k)) v := by
  obtain ⟨K, h⟩ := h
  obtain ⟨K2, h2⟩ := h2
  exact ⟨max K K2, fun k hk => by show (f k).bind (g k) = some v; rw [h k (by omega)]; exact h2 k (by omega)⟩
theorem Ev.step {g f : Nat → Option α} {v : α} (h : ∀ k, g (k + 1) = f k) (h2 : Ev f v) : Ev g v := by
  obtain ⟨K, h2⟩ := h2
  exact ⟨K + 1, fun k hk => by
    obtain ⟨m, rfl⟩ : ∃ m, k = m + 1 := ⟨k - 1, by omega⟩
    rw [h m]; exact h2 m (by omega)⟩
theorem Ev.succ {g : Nat → Option α} {v : α} (h : Ev (fun k => g (k + 1)) v) : Ev g v := Ev.step (fun _ => rfl) h
theorem Ev.ex {f : Nat → Option α} {v : α} (h : Ev f v) : ∃ k, f k = some v := let ⟨K, h⟩ := h; ⟨K, h K (Nat.le_refl _)⟩
theorem Ev.pos {p : Prop} [Decidable p] {f g : Nat → Option α} {v : α} (c : p) (h1 : Ev f v) : Ev (fun k => if p then f k else g k) v := by simp only [if_pos c]; exact h1
theorem Ev.neg {p : Prop} [Decidable p] {f g : Nat → Option α} {v : α} (c : ¬ p) (h1 : Ev g v) : Ev (fun k => if p then f k else g k) v := by simp only [if_neg c]; exact h1

end
end Go.EV.Pure
namespace Go.EV.Pure
open Go Go.EV Go.RowKit
theorem Below_j (x : Int) : Ev (fun k => pilemake_Below.j6 k x) x := Ev.from 1 fun k => rfl
theorem Below_spec (x n : Int) (hn : n ≤ 9223372036854775807) : ∃ r, Ev (fun k => pilemake_Below.f k x n) r ∧ 0 ≤ r ∧ (1 ≤ n → r < n) ∧ (n < 1 → r = 0) := by
  unfold pilemake_Below.f
  by_cases h : n < 1
  · simp only [if_pos h]
    exact ⟨0, Ev.now _, by omega, by omega, fun _ => rfl⟩
  · simp only [if_neg h, if_neg (show ¬ n = 0 by omega)]
    have hm := Int.natAbs_tmod x n
    have hm2 := Nat.mod_lt x.natAbs (show n.natAbs > 0 by omega)
    have h1 : x.tmod n < n := by omega
    have h2 : -n < x.tmod n := by omega
    by_cases h3 : x.tmod n < 0
    · simp only [if_pos h3]
      refine ⟨_, Below_j _, ?_, ?_, ?_⟩ <;> rw [wrap_id (by omega) (by omega)] <;> omega
    · simp only [if_neg h3]
      exact ⟨_, Below_j _, by omega, by omega, by omega⟩
theorem Next_spec (l : List Int) (s n : Int) (h0 : 0 ≤ s) (h1 : s ≤ 4611686018427387904) (hn : n ≤ 9223372036854775807) (hl : l.length ≤ 140737488351232) :
    ∃ r, Ev (fun k => pilemake_Stream_Next.f k l s n) (r, l, s + 1) ∧ 0 ≤ r ∧ (1 ≤ n → r < n) := by
  unfold pilemake_Stream_Next.f
  have hs : wrap64 (s + 1) = s + 1 := wrap_id (by omega) (by omega)
  have hs2 : wrap64 (s + 1 - 1) = s := by rw [wrap_id (by omega) (by omega)]; omega
  simp only [hs, hs2]
  by_cases h : (l.length : Int) = 0
  · simp only [if_pos h]
    obtain ⟨r, hr, r0, r1, _⟩ := Below_spec (wrap64 ((s + 1) * 7919)) n hn
    exact ⟨r, Ev.bind hr (Ev.now _), r0, r1⟩
  · have e : Int.tmod s (l.length : Int) = s % (l.length : Int) := Int.tmod_eq_emod_of_nonneg h0
    have m0 : 0 ≤ s % (l.length : Int) := Int.emod_nonneg _ h
    have m1 : s % (l.length : Int) < (l.length : Int) := Int.emod_lt_of_pos _ (by omega)
    simp only [if_neg h, e, if_pos m0, if_pos m1]
    obtain ⟨a, ha, _⟩ := Below_spec (rd l (s % (l.length : Int))) 1073741824 (by omega)
    obtain ⟨r, hr, r0, r1, _⟩ := Below_spec (wrap64 (a + wrap64 (wrap64 (Int.tdiv s (l.length : Int)) * wrap64 (7919 + s % (l.length : Int))))) n hn
    exact ⟨r, Ev.bind ha (Ev.bind hr (Ev.now _)), r0, r1⟩
theorem Range_spec (l : List Int) (s a b : Int) (h0 : 0 ≤ s) (h1 : s ≤ 4611686018427387904) (ha : -1099511627776 ≤ a) (hb : b ≤ 1099511627776) (hab : a ≤ b) (hl : l.length ≤ 140737488351232) :
    ∃ r, Ev (fun k => pilemake_Stream_Range.f k l s a b) (r, l, s + 1) ∧ a ≤ r ∧ r ≤ b := by
  obtain ⟨r, hr, r0, r1⟩ := Next_spec l s (b - a + 1) h0 h1 (by omega) hl
  have r2 := r1 (by omega)
  refine ⟨a + r, ?_, by omega, by omega⟩
  unfold pilemake_Stream_Range.f
  rw [wrap_id (e := b - a) (by omega) (by omega), wrap_id (e := b - a + 1) (by omega) (by omega)]
  refine Ev.neg (by omega) (Ev.bind hr ?_)
  simp only [wrap_id (e := a + r) (by omega) (by omega)]
  exact Ev.now _
end Go.EV.Pure
namespace Go.EV.Pure
open Go Go.EV Go.RowKit
set_option maxRecDepth 100000
theorem ready_ev : Ev (fun k => pilekeep1_ready.f k) true := Ev.from 300 fun k => (by kernel_rfl : pilekeep1_ready.f (k + 300) = some true)
end Go.EV.Pure
namespace Go.EV.Pure
open Go Go.EV Go.RowKit
set_option linter.unusedSimpArgs false
/-! Numbers that are cut, and read again. -/
theorem bt_list (L : List UInt8) (i : Nat) (h : i < L.length) : bt (⟨L.toArray⟩ : ByteArray) (i : Int) = (L[i].toNat : Int) := by
  unfold bt
  have hs : (Int.toNat (i : Int)) < (⟨L.toArray⟩ : ByteArray).size := by simpa [ByteArray.size] using h
  rw [dif_pos hs]
  have : (⟨L.toArray⟩ : ByteArray)[Int.toNat (i : Int)]'hs = L[i] := by
    show (L.toArray)[Int.toNat (i : Int)]'_ = _
    simp
  rw [this]
theorem size_list (L : List UInt8) : ((⟨L.toArray⟩ : ByteArray).size : Int) = (L.length : Int) := by simp [ByteArray.size]
def okB (c : UInt8) : Prop := c.toNat = 116 ∨ c.toNat = 110 ∨ (48 ≤ c.toNat ∧ c.toNat ≤ 57)
def uv (c : UInt8) : Int := if c.toNat = 116 then 0 else if c.toNat = 110 then 9 else (c.toNat : Int) - 48
theorem uv_bd (c : UInt8) (h : okB c) : 0 ≤ uv c ∧ uv c ≤ 9 := by unfold uv; unfold okB at h; split <;> (try split) <;> omega
/-- The number that bytes tell. -/
def val : List UInt8 → Int → Int
  | [], a => a
  | c :: r, a => val r (10 * a + uv c)
theorem val_snoc (L : List UInt8) (c : UInt8) : ∀ a, val (L ++ [c]) a = 10 * val L a + uv c := by
  induction L with
  | nil => intro a; rfl
  | cons d r ih => intro a; exact ih _
theorem val_acc (L : List UInt8) : ∀ a, val L a = a * 10 ^ L.length + val L 0 := by
  induction L with
  | nil => intro a; simp [val]
  | cons d r ih =>
    intro a
    simp only [val, List.length_cons]
    rw [ih (10 * a + uv d), ih (10 * 0 + uv d), Int.add_mul, Int.mul_zero, Int.zero_add, Int.pow_succ]
    have : 10 * a * 10 ^ r.length = a * (10 ^ r.length * 10) := by rw [Int.mul_comm 10 a, Int.mul_assoc, Int.mul_comm 10]
    omega
theorem val_nonneg (L : List UInt8) (h : ∀ c ∈ L, okB c) : ∀ a, 0 ≤ a → 0 ≤ val L a := by
  induction L with
  | nil => intro a ha; exact ha
  | cons d r ih =>
    intro a ha
    have := uv_bd d (h d (by simp))
    exact ih (fun c hc => h c (by simp [hc])) _ (by omega)
theorem idx (c : UInt8) (h : 48 ≤ c.toNat ∧ c.toNat ≤ 57) : strings_IndexByte.f (⟨#[48, 49, 50, 51, 52, 53, 54, 55, 56, 57]⟩ : ByteArray) (c.toNat : Int) = some ((c.toNat : Int) - 48) := by
  have e : c = UInt8.ofNat c.toNat := by simp
  have hc : c.toNat = 48 ∨ c.toNat = 49 ∨ c.toNat = 50 ∨ c.toNat = 51 ∨ c.toNat = 52 ∨ c.toNat = 53 ∨ c.toNat = 54 ∨ c.toNat = 55 ∨ c.toNat = 56 ∨ c.toNat = 57 := by omega
  rcases hc with hc | hc | hc | hc | hc | hc | hc | hc | hc | hc <;> rw [hc] <;> rfl
theorem Uncut_j (s : ByteArray) (x d i : Int) {v : Int × Bool × Int} (hx : 0 ≤ x ∧ x ≤ 100000000000) (hd : 0 ≤ d ∧ d ≤ 9) (hi : 0 ≤ i ∧ i ≤ 1000) (h : Ev (fun k => key_Uncut.l0 k s (10 * x + d) (i + 1)) v) : Ev (fun k => key_Uncut.j16 k s x i d) v := by
  refine Ev.step (fun k => ?_) h
  simp only [key_Uncut.j16]
  rw [if_neg (by omega), wrap_id (e := 10 * x) (by omega) (by omega), wrap_id (e := 10 * x + d) (by omega) (by omega), wrap_id (e := i + 1) (by omega) (by omega)]
theorem Uncut_step (L : List UInt8) (i : Nat) (hi : i < L.length) (hl : L.length ≤ 9) (h : okB L[i]) (x : Int) (hx : 0 ≤ x ∧ x ≤ 100000000000) {v : Int × Bool × Int}
    (hn : Ev (fun k => key_Uncut.l0 k (⟨L.toArray⟩ : ByteArray) (10 * x + uv L[i]) ((i + 1 : Nat) : Int)) v) : Ev (fun k => key_Uncut.l0 k (⟨L.toArray⟩ : ByteArray) x (i : Int)) v := by
  have hb := bt_list L i hi
  have hs := size_list L
  have hv := uv_bd _ h
  refine Ev.succ ?_
  simp only [key_Uncut.l0, hb, hs]
  refine Ev.pos (by omega) (Ev.pos (by omega) (Ev.pos (by omega) ?_))
  have hj : ∀ d, d = uv L[i] → Ev (fun k => key_Uncut.j16 k (⟨L.toArray⟩ : ByteArray) x (i : Int) d) v := fun d hd => by
    subst hd
    exact Uncut_j _ _ _ _ hx hv (by omega) hn
  have hsome : ∃ r, strings_IndexByte.f (⟨#[48, 49, 50, 51, 52, 53, 54, 55, 56, 57]⟩ : ByteArray) (L[i].toNat : Int) = some r ∧ (48 ≤ L[i].toNat ∧ L[i].toNat ≤ 57 → r = (L[i].toNat : Int) - 48) := by
    by_cases c : 48 ≤ L[i].toNat ∧ L[i].toNat ≤ 57
    · exact ⟨_, idx _ c, fun _ => rfl⟩
    · exact ⟨_, rfl, fun h => absurd h c⟩
  obtain ⟨r, hr, hr2⟩ := hsome
  simp only [hr, Option.bind_some]
  refine Ev.pos (by omega) (Ev.pos (by omega) ?_)
  unfold okB at h
  unfold uv at hj
  by_cases c1 : (L[i].toNat : Int) = 116
  · exact Ev.pos c1 (Ev.pos c1 (hj 0 (by rw [if_pos (by omega)])))
  · refine Ev.neg c1 (Ev.neg (by omega) (Ev.neg (by omega) ?_))
    by_cases c2 : (L[i].toNat : Int) = 110
    · exact Ev.pos c2 (hj 9 (by rw [if_neg (by omega), if_pos (by omega)]))
    · exact Ev.neg c2 (hj r (by rw [if_neg (by omega), if_neg (by omega)]; exact hr2 (by omega)))
theorem val_bd (L : List UInt8) (h : ∀ c ∈ L, okB c) : 0 ≤ val L 0 ∧ val L 0 < 10 ^ L.length := by
  refine ⟨val_nonneg L h 0 (by omega), ?_⟩
  have key : ∀ (L : List UInt8), (∀ c ∈ L, okB c) → ∀ (a : Int), val L a < (a + 1) * 10 ^ L.length := by
    intro L
    induction L with
    | nil => intro _ a; simp [val]; omega
    | cons d r ih =>
      intro h a
      have hd := uv_bd d (h d (by simp))
      have := ih (fun c hc => h c (by simp [hc])) (10 * a + uv d)
      have hp : (0 : Int) < 10 ^ r.length := Int.pow_pos (by omega)
      have h2 : (10 * a + uv d + 1) * 10 ^ r.length ≤ (10 * (a + 1)) * 10 ^ r.length := Int.mul_le_mul_of_nonneg_right (by omega) (by omega)
      simp only [val, List.length_cons, Int.pow_succ]
      have h3 : (10 * (a + 1)) * 10 ^ r.length = (a + 1) * (10 ^ r.length * 10) := by rw [Int.mul_comm 10 (a + 1), Int.mul_assoc, Int.mul_comm 10]
      omega
  have := key L h 0
  simpa using this
theorem Uncut_loop (L : List UInt8) (hl : L.length ≤ 9) (h : ∀ c ∈ L, okB c) (d : Nat) : ∀ i : Nat, i + d = L.length → Ev (fun k => key_Uncut.l0 k (⟨L.toArray⟩ : ByteArray) (val (L.take i) 0) (i : Int)) (val L 0, true, 0) := by
  induction d with
  | zero =>
    intro i hi
    obtain rfl : i = L.length := by omega
    rw [List.take_length]
    refine Ev.step (f := fun _ => some _) (fun k => ?_) (Ev.now _)
    simp only [key_Uncut.l0, size_list]
    rw [if_neg (by omega)]
  | succ d ih =>
    intro i hi
    have hil : i < L.length := by omega
    have hb := val_bd (L.take i) (fun c hc => h c (List.mem_of_mem_take hc))
    have hp : (10 : Int) ^ (L.take i).length ≤ 1000000000 := by
      have : (L.take i).length ≤ 9 := by simp; omega
      have h2 := Nat.pow_le_pow_right (show 0 < 10 by omega) this
      have h3 : ((10 ^ (L.take i).length : Nat) : Int) ≤ ((10 ^ 9 : Nat) : Int) := by exact_mod_cast h2
      simpa using h3
    have e : val (L.take (i + 1)) 0 = 10 * val (L.take i) 0 + uv L[i] := by rw [List.take_succ_eq_append_getElem hil, val_snoc]
    refine Uncut_step L i hil hl (h _ (List.getElem_mem hil)) _ ⟨hb.1, by omega⟩ ?_
    rw [← e]
    exact ih (i + 1) (by omega)
theorem Uncut_spec (L : List UInt8) (h1 : 1 ≤ L.length) (hl : L.length ≤ 9) (h : ∀ c ∈ L, okB c) : Ev (fun k => key_Uncut.f k (⟨L.toArray⟩ : ByteArray)) (val L 0, true, 0) := by
  unfold key_Uncut.f
  have hO : kit_Outside.f (((⟨L.toArray⟩ : ByteArray).size : Int)) 1 9 = some false := by
    rw [size_list]
    unfold kit_Outside.f
    rw [if_neg (by omega)]
    simp; omega
  simp only [hO, Option.bind_some]
  exact Ev.neg Bool.false_ne_true (Uncut_loop L hl h L.length 0 (by omega))
theorem cutc (r : Int) (h : 0 ≤ r ∧ r < 10) : ∃ c : UInt8, Utf8.encode (bt (⟨#[116, 49, 50, 51, 52, 53, 54, 55, 56, 110]⟩ : ByteArray) r) = (⟨#[c]⟩ : ByteArray) ∧ okB c ∧ uv c = r := by
  have hr : r = 0 ∨ r = 1 ∨ r = 2 ∨ r = 3 ∨ r = 4 ∨ r = 5 ∨ r = 6 ∨ r = 7 ∨ r = 8 ∨ r = 9 := by omega
  rcases hr with rfl | rfl | rfl | rfl | rfl | rfl | rfl | rfl | rfl | rfl
  · exact ⟨116, by decide +kernel, by unfold okB; decide, by decide⟩
  · exact ⟨49, by decide +kernel, by unfold okB; decide, by decide⟩
  · exact ⟨50, by decide +kernel, by unfold okB; decide, by decide⟩
  · exact ⟨51, by decide +kernel, by unfold okB; decide, by decide⟩
  · exact ⟨52, by decide +kernel, by unfold okB; decide, by decide⟩
  · exact ⟨53, by decide +kernel, by unfold okB; decide, by decide⟩
  · exact ⟨54, by decide +kernel, by unfold okB; decide, by decide⟩
  · exact ⟨55, by decide +kernel, by unfold okB; decide, by decide⟩
  · exact ⟨56, by decide +kernel, by unfold okB; decide, by decide⟩
  · exact ⟨110, by decide +kernel, by unfold okB; decide, by decide⟩
theorem cons_bytes (c : UInt8) (L : List UInt8) : (⟨#[c]⟩ : ByteArray) ++ (⟨L.toArray⟩ : ByteArray) = ⟨(c :: L).toArray⟩ := by
  apply ByteArray.ext
  simp
theorem val_cons (c : UInt8) (L : List UInt8) : val (c :: L) 0 = uv c * 10 ^ L.length + val L 0 := by
  show val L (10 * 0 + uv c) = _
  rw [val_acc L (10 * 0 + uv c)]
  simp
theorem Cut_loop (N a1 : Int) (ha : 1 ≤ a1 ∧ a1 ≤ 5) (hN : N ≤ 99999) (d : Nat) : ∀ (x : Int) (L : List UInt8), L.length + d = 5 → 0 ≤ x → x * 10 ^ L.length + val L 0 = N → (∀ c ∈ L, okB c) →
    ∃ L' : List UInt8, Ev (fun k => key_Cut.l0 k a1 x (⟨L.toArray⟩ : ByteArray)) (⟨L'.toArray⟩, 0) ∧ (∀ c ∈ L', okB c) ∧ val L' 0 = N ∧ a1 ≤ (L'.length : Int) ∧ L'.length ≤ 5 := by
  have hend : ∀ (x : Int) (L : List UInt8), x = 0 → a1 ≤ (L.length : Int) → L.length ≤ 5 → x * 10 ^ L.length + val L 0 = N → (∀ c ∈ L, okB c) →
      ∃ L' : List UInt8, Ev (fun k => key_Cut.l0 k a1 x (⟨L.toArray⟩ : ByteArray)) (⟨L'.toArray⟩, 0) ∧ (∀ c ∈ L', okB c) ∧ val L' 0 = N ∧ a1 ≤ (L'.length : Int) ∧ L'.length ≤ 5 := by
    intro x L hx h1 h5 hv hok
    subst hx
    refine ⟨L, Ev.step (f := fun _ => some _) (fun k => ?_) (Ev.now _), hok, by simpa using hv, h1, h5⟩
    simp only [key_Cut.l0, size_list]
    rw [if_neg (by omega), if_neg (by omega)]
  induction d with
  | zero =>
    intro x L hL hx hv hok
    have hb := (val_bd L hok).1
    have h5 : L.length = 5 := by omega
    refine hend x L ?_ (by omega) (by omega) hv hok
    rw [h5] at hv
    simp only [Int.reducePow] at hv
    omega
  | succ d ih =>
    intro x L hL hx hv hok
    by_cases c : x = 0 ∧ a1 ≤ (L.length : Int)
    · exact hend x L c.1 c.2 (by omega) hv hok
    · have hm : Int.tmod x 10 = x % 10 := tmod_pos hx
      have hdv : Int.tdiv x 10 = x / 10 := tdiv_pos hx
      obtain ⟨b, hb, hbok, hbv⟩ := cutc (x % 10) (by omega)
      have hvn := (val_bd L hok).1
      have hp : (0 : Int) < 10 ^ L.length := Int.pow_pos (by omega)
      have hxb : x ≤ x * 10 ^ L.length := by
        have := Int.mul_le_mul_of_nonneg_left (show (1 : Int) ≤ 10 ^ L.length by omega) hx
        simpa using this
      obtain ⟨L', e1, e2⟩ := ih (x / 10) (b :: L) (by simp; omega) (by omega) (by
        rw [val_cons, hbv, List.length_cons, Int.pow_succ]
        have h1 : x = 10 * (x / 10) + x % 10 := by omega
        have h2 : x * 10 ^ L.length = (x / 10) * (10 ^ L.length * 10) + (x % 10) * 10 ^ L.length := by
          conv => lhs; rw [h1]
          rw [Int.add_mul, Int.mul_comm 10 (x / 10), Int.mul_assoc, Int.mul_comm 10]
        omega) (fun z hz => by
          rcases List.mem_cons.1 hz with rfl | hz
          · exact hbok
          · exact hok z hz)
      have hT : ((⟨#[116, 49, 50, 51, 52, 53, 54, 55, 56, 110]⟩ : ByteArray).size : Int) = 10 := rfl
      have h1 : ((⟨#[b]⟩ : ByteArray).size) = 1 := rfl
      have hsz : (⟨L.toArray⟩ : ByteArray).size = L.length := by simp [ByteArray.size]
      have hbody : Ev (fun k => if 0 ≤ Int.tmod x 10 then (if Int.tmod x 10 < ((⟨#[116, 49, 50, 51, 52, 53, 54, 55, 56, 110]⟩ : ByteArray).size : Int) then (if (Utf8.encode (bt (⟨#[116, 49, 50, 51, 52, 53, 54, 55, 56, 110]⟩ : ByteArray) (Int.tmod x 10))).size + (⟨L.toArray⟩ : ByteArray).size ≤ 9223372036854775807 then key_Cut.l0 k a1 (wrap64 (Int.tdiv x 10)) ((Utf8.encode (bt (⟨#[116, 49, 50, 51, 52, 53, 54, 55, 56, 110]⟩ : ByteArray) (Int.tmod x 10))) ++ (⟨L.toArray⟩ : ByteArray)) else Option.none) else Option.none) else Option.none) (⟨L'.toArray⟩, 0) := by
        simp only [hm, hdv, hb, hT, cons_bytes, wrap_id (e := x / 10) (by omega) (by omega), h1, hsz]
        exact Ev.pos (by omega) (Ev.pos (by omega) (Ev.pos (by omega) e1))
      refine ⟨L', Ev.succ ?_, e2⟩
      simp only [key_Cut.l0]
      by_cases cx : x > 0
      · exact Ev.pos cx hbody
      · exact Ev.neg cx (Ev.pos (by rw [size_list]; omega) hbody)
theorem Cut_spec (N a1 : Int) (h0 : 0 ≤ N ∧ N ≤ 99999) (ha : 1 ≤ a1 ∧ a1 ≤ 5) :
    ∃ L' : List UInt8, Ev (fun k => key_Cut.f k N a1) (⟨L'.toArray⟩, 0) ∧ (∀ c ∈ L', okB c) ∧ val L' 0 = N ∧ a1 ≤ (L'.length : Int) ∧ L'.length ≤ 5 := by
  obtain ⟨L', e1, e2⟩ := Cut_loop N a1 ha h0.2 5 N [] (by simp) h0.1 (by simp [val]) (fun c hc => by cases hc)
  refine ⟨L', ?_, e2⟩
  unfold key_Cut.f
  have hO : kit_Outside.f N 0 99999 = some false := by unfold kit_Outside.f; rw [if_neg (by omega)]; simp; omega
  have hO2 : kit_Outside.f a1 1 5 = some false := by unfold kit_Outside.f; rw [if_neg (by omega)]; simp; omega
  simp only [hO, hO2, Option.bind_some]
  exact Ev.neg Bool.false_ne_true (Ev.neg Bool.false_ne_true e1)
theorem dec_val : ∀ (m u : Nat), u < 10 ^ (m + 1) → (∀ c ∈ Lib.decDigits u, okB c) ∧ val (Lib.decDigits u) 0 = (u : Int) ∧ 1 ≤ (Lib.decDigits u).length ∧ (Lib.decDigits u).length ≤ m + 1
  | m, u, hu => by
    have hdig : ∀ r : Nat, r < 10 → okB (UInt8.ofNat (48 + r)) ∧ uv (UInt8.ofNat (48 + r)) = r := fun r hr => by
      have e : (UInt8.ofNat (48 + r)).toNat = 48 + r := by simp; omega
      unfold okB uv
      rw [e, if_neg (by omega), if_neg (by omega)]
      omega
    by_cases c : u < 10
    · rw [Lib.decDigits, dif_pos c]
      obtain ⟨h1, h2⟩ := hdig u c
      refine ⟨fun z hz => ?_, ?_, by simp, by simp⟩
      · have hz := List.mem_singleton.1 hz
        subst hz
        exact h1
      · show 10 * 0 + uv _ = _
        rw [h2]; omega
    · obtain ⟨m, rfl⟩ : ∃ q, m = q + 1 := ⟨m - 1, by
        rcases m with _ | m
        · simp at hu; omega
        · omega⟩
      obtain ⟨i1, i2, i3, i4⟩ := dec_val m (u / 10) (by rw [Nat.pow_succ] at hu; omega)
      obtain ⟨h1, h2⟩ := hdig (u % 10) (by omega)
      rw [Lib.decDigits, dif_neg c]
      refine ⟨fun z hz => ?_, ?_, by simp, by simp; omega⟩
      · rcases List.mem_append.1 hz with hz | hz
        · exact i1 z hz
        · have hz := List.mem_singleton.1 hz
          subst hz
          exact h1
      · rw [val_snoc, i2, h2]; omega
theorem NumbersComeBack (l : List Int) (hl : l.length ≤ 140737488351232) : ∃ k, pilekeep1_NumbersComeBack.f k l = some true := by
  obtain ⟨n, e1, n0, n1⟩ := Range_spec l 0 0 99999 (by omega) (by omega) (by omega) (by omega) (by omega) hl
  obtain ⟨a, e2, a0, a1⟩ := Range_spec l (0 + 1) 1 5 (by omega) (by omega) (by omega) (by omega) (by omega) hl
  obtain ⟨L, e3, l1, l2, l3, l4⟩ := Cut_spec n a ⟨n0, n1⟩ ⟨a0, a1⟩
  have e4 := Uncut_spec L (by omega) (by omega) l1
  obtain ⟨u, rfl⟩ : ∃ u : Nat, n = u := ⟨n.toNat, by omega⟩
  obtain ⟨d1, d2, d3, d4⟩ := dec_val 4 u (by omega)
  have e6 := Uncut_spec (Lib.decDigits u) d3 (by omega) d1
  have hI : strconv_Itoa.f (u : Int) = some (⟨(Lib.decDigits u).toArray⟩ : ByteArray) := by
    unfold strconv_Itoa.f
    rw [if_pos (by omega), Lib.itoa_nonneg]
  have hR : Ev (fun k => (pilekeep1_ready.f k).bind fun r => Option.some r) true := Ev.bind ready_ev (Ev.now _)
  refine (Ev.bind e1 (Ev.bind e2 (Ev.bind e3 (Ev.bind e4 ?_)))).ex
  simp only [hI, Option.bind_some]
  refine Ev.bind e6 (Ev.pos (by trivial) (Ev.pos (by trivial) (Ev.pos (by trivial) (Ev.pos (by trivial) (Ev.pos (by trivial) (Ev.pos l2 (Ev.pos d2 (Ev.pos ?_ hR))))))))
  simp only [size_list]
  exact l3
end Go.EV.Pure
