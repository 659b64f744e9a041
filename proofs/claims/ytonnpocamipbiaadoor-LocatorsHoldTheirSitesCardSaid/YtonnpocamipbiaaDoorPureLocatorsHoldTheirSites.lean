/- The plain law: the Lean functions answer true for every list. -/
import Derived.Test.YtonnpocamipbiaaDoorXLocatorsHoldTheirSites
import Derived.KernelRfl
set_option linter.unusedVariables false
set_option linter.unusedSimpArgs false
/-! Plain laws that all statements use: numbers that don't wrap, functions with fuel, loops over lists, the stream's draws. -/
namespace Go.EV.Pure
open Go Go.EV Go.RowKit
theorem wrap_id {e : Int} (h1 : -9223372036854775808 ≤ e) (h2 : e ≤ 9223372036854775807) : wrap64 e = e := by
  unfold wrap64
  omega
theorem tmod_pos {a n : Int} (h : 0 ≤ a) : a.tmod n = a % n := Int.tmod_eq_emod_of_nonneg h
theorem tdiv_pos {a n : Int} (h : 0 ≤ a) : a.tdiv n = a / n := Int.tdiv_eq_ediv_of_nonneg h
theorem mn_eq (a b : Int) : mn a b = if b < a then b else a := rfl
theorem rdE_get {α : Type} (E : Enc α) (l : List α) (i : Nat) (h : i < l.length) : rdE E l (i : Int) = l[i] := by
  simp [rdE, List.getD, List.getElem?_eq_getElem h]
theorem rd_mem (l : List Int) (i : Int) (h0 : 0 ≤ i) (h1 : i < l.length) : rd l i ∈ l := by
  have h : i.toNat < l.length := by omega
  have : rd l i = l[i.toNat] := by simp [rd, List.getD, List.getElem?_eq_getElem h]
  rw [this]
  exact List.getElem_mem h
theorem wrap_succ {i : Nat} (h : i ≤ 1000000000000000) : wrap64 ((i : Int) + 1) = ((i + 1 : Nat) : Int) := by rw [wrap_id (by omega) (by omega)]; omega

/-- From some fuel on the function answers v. -/
def Ev {α : Type} (f : Nat → Option α) (v : α) : Prop := ∃ K, ∀ k, K ≤ k → f k = some v
section
variable {α β : Type}
theorem Ev.now (v : α) : Ev (fun _ => some v) v := ⟨0, fun _ _ => rfl⟩
theorem Ev.of {f : Nat → Option α} {v : α} (h : ∀ k, f k = some v) : Ev f v := ⟨0, fun k _ => h k⟩
theorem Ev.from {f : Nat → Option α} {v : α} (n : Nat) (h : ∀ k, f (k + n) = some v) : Ev f v := ⟨n, fun k hk => by
  obtain ⟨m, rfl⟩ : ∃ m, k = m + n := ⟨k - n, by omega⟩
  exact h m⟩
theorem Ev.bind {f : Nat → Option α} {a : α} {g : Nat → α → Option β} {v : β} (h : Ev f a) (h2 : Ev (fun k => g k a) v) : Ev (fun k => (f k).bind (g k)) v := by
  obtain ⟨K, h⟩ := h
  obtain ⟨K2, h2⟩ := h2
  exact ⟨max K K2, fun k hk => by show (f k).bind (g k) = some v; rw [h k (by omega)]; exact h2 k (by omega)⟩
theorem Ev.step {g f : Nat → Option α} {v : α} (h : ∀ k, g (k + 1) = f k) (h2 : Ev f v) : Ev g v := by
  obtain ⟨K, h2⟩ := h2
  exact ⟨K + 1, fun k hk => by
    obtain ⟨m, rfl⟩ : ∃ m, k = m + 1 := ⟨k - 1, by omega⟩
    rw [h m]; exact h2 m (by omega)⟩
theorem Ev.succ {g : Nat → Option α} {v : α} (h : Ev (fun k => g (k + 1)) v) : Ev g v := Ev.step (fun _ => rfl) h
theorem Ev.congr {f g : Nat → Option α} {v : α} (h : ∀ k, f k = g k) (h2 : Ev g v) : Ev f v := by
  obtain ⟨K, h2⟩ := h2
  exact ⟨K, fun k hk => (h k).trans (h2 k hk)⟩
theorem Ev.ex {f : Nat → Option α} {v : α} (h : Ev f v) : ∃ k, f k = some v := let ⟨K, h⟩ := h; ⟨K, h K (Nat.le_refl _)⟩
theorem Ev.ite {p : Prop} [Decidable p] {f g : Nat → Option α} {v : α} (h1 : p → Ev f v) (h2 : ¬ p → Ev g v) : Ev (fun k => if p then f k else g k) v := by
  by_cases c : p
  · simp only [if_pos c]; exact h1 c
  · simp only [if_neg c]; exact h2 c
theorem Ev.pos {p : Prop} [Decidable p] {f g : Nat → Option α} {v : α} (c : p) (h1 : Ev f v) : Ev (fun k => if p then f k else g k) v := by simp only [if_pos c]; exact h1
theorem Ev.neg {p : Prop} [Decidable p] {f g : Nat → Option α} {v : α} (c : ¬ p) (h1 : Ev g v) : Ev (fun k => if p then f k else g k) v := by simp only [if_neg c]; exact h1

end
end Go.EV.Pure
namespace Go.EV.Pure
open Go Go.EV Go.RowKit
theorem Below_j (x : Int) : Ev (fun k => pilemake_Below.j6 k x) x := Ev.from 1 fun k => rfl
theorem Below_spec (x n : Int) (hn : n ≤ 9223372036854775807) : ∃ r, Ev (fun k => pilemake_Below.f k x n) r ∧ 0 ≤ r ∧ (1 ≤ n → r < n) ∧ (n < 1 → r = 0) := by
  unfold pilemake_Below.f
  by_cases h : n < 1
  · simp only [if_pos h]
    exact ⟨0, Ev.now _, by omega, by omega, fun _ => rfl⟩
  · simp only [if_neg h, if_neg (show ¬ n = 0 by omega)]
    have hm := Int.natAbs_tmod x n
    have hm2 := Nat.mod_lt x.natAbs (show n.natAbs > 0 by omega)
    have h1 : x.tmod n < n := by omega
    have h2 : -n < x.tmod n := by omega
    by_cases h3 : x.tmod n < 0
    · simp only [if_pos h3]
      refine ⟨_, Below_j _, ?_, ?_, ?_⟩ <;> rw [wrap_id (by omega) (by omega)] <;> omega
    · simp only [if_neg h3]
      exact ⟨_, Below_j _, by omega, by omega, by omega⟩
theorem Next_spec (l : List Int) (s n : Int) (h0 : 0 ≤ s) (h1 : s ≤ 4611686018427387904) (hn : n ≤ 9223372036854775807) (hl : l.length ≤ 140737488351232) :
    ∃ r, Ev (fun k => pilemake_Stream_Next.f k l s n) (r, l, s + 1) ∧ 0 ≤ r ∧ (1 ≤ n → r < n) := by
  unfold pilemake_Stream_Next.f
  have hs : wrap64 (s + 1) = s + 1 := wrap_id (by omega) (by omega)
  have hs2 : wrap64 (s + 1 - 1) = s := by rw [wrap_id (by omega) (by omega)]; omega
  simp only [hs, hs2]
  by_cases h : (l.length : Int) = 0
  · simp only [if_pos h]
    obtain ⟨r, hr, r0, r1, _⟩ := Below_spec (wrap64 ((s + 1) * 7919)) n hn
    exact ⟨r, Ev.bind hr (Ev.now _), r0, r1⟩
  · have e : Int.tmod s (l.length : Int) = s % (l.length : Int) := Int.tmod_eq_emod_of_nonneg h0
    have m0 : 0 ≤ s % (l.length : Int) := Int.emod_nonneg _ h
    have m1 : s % (l.length : Int) < (l.length : Int) := Int.emod_lt_of_pos _ (by omega)
    simp only [if_neg h, e, if_pos m0, if_pos m1]
    obtain ⟨a, ha, _⟩ := Below_spec (rd l (s % (l.length : Int))) 1073741824 (by omega)
    obtain ⟨r, hr, r0, r1, _⟩ := Below_spec (wrap64 (a + wrap64 (wrap64 (Int.tdiv s (l.length : Int)) * wrap64 (7919 + s % (l.length : Int))))) n hn
    exact ⟨r, Ev.bind ha (Ev.bind hr (Ev.now _)), r0, r1⟩
theorem Pick_spec (l : List Int) (s : Int) (m : List Int) (h0 : 0 ≤ s) (h1 : s ≤ 4611686018427387904) (hl : l.length ≤ 140737488351232) (hm : 1 ≤ m.length) (hm2 : m.length ≤ 1000) :
    ∃ r, Ev (fun k => pilemake_Stream_Pick.f k l s m) (r, l, s + 1) ∧ r ∈ m := by
  obtain ⟨r, hr, r0, r1⟩ := Next_spec l s (m.length : Int) h0 h1 (by omega) hl
  have r2 := r1 (by omega)
  exact ⟨rd m r, Ev.bind hr (Ev.pos r0 (Ev.pos r2 (Ev.now _))), rd_mem m r r0 r2⟩
theorem Range_spec (l : List Int) (s a b : Int) (h0 : 0 ≤ s) (h1 : s ≤ 4611686018427387904) (ha : -1099511627776 ≤ a) (hb : b ≤ 1099511627776) (hab : a ≤ b) (hl : l.length ≤ 140737488351232) :
    ∃ r, Ev (fun k => pilemake_Stream_Range.f k l s a b) (r, l, s + 1) ∧ a ≤ r ∧ r ≤ b := by
  obtain ⟨r, hr, r0, r1⟩ := Next_spec l s (b - a + 1) h0 h1 (by omega) hl
  have r2 := r1 (by omega)
  refine ⟨a + r, ?_, by omega, by omega⟩
  unfold pilemake_Stream_Range.f
  rw [wrap_id (e := b - a) (by omega) (by omega), wrap_id (e := b - a + 1) (by omega) (by omega)]
  refine Ev.neg (by omega) (Ev.bind hr ?_)
  simp only [wrap_id (e := a + r) (by omega) (by omega)]
  exact Ev.now _
theorem Flip_spec (l : List Int) (s n : Int) (h0 : 0 ≤ s) (h1 : s ≤ 4611686018427387904) (hn : n ≤ 9223372036854775807) (hl : l.length ≤ 140737488351232) :
    ∃ b, Ev (fun k => pilemake_Stream_Flip.f k l s n) (b, l, s + 1) := by
  obtain ⟨r, hr, _⟩ := Next_spec l s n h0 h1 hn hl
  exact ⟨decide (r = 0), Ev.bind hr (Ev.now _)⟩
end Go.EV.Pure
namespace Go.EV.Pure
open Go Go.EV Go.RowKit
set_option linter.unusedSimpArgs false
/-! Sites, the cosine, how far sites are from each other. -/
theorem Outside_eq (a lo hi : Int) : kit_Outside.f a lo hi = some (decide (a < lo ∨ hi < a)) := by
  unfold kit_Outside.f
  split <;> simp [*]
theorem in_eq (a lo hi : Int) : pileref1_in.f a lo hi = some (decide (lo ≤ a ∧ a ≤ hi)) := by
  unfold pileref1_in.f
  split <;> simp [*]
theorem CheckSite_eq (n e : Int) : place_CheckSite.f n e = some (if (-324000 ≤ n ∧ n ≤ 324000) ∧ -648000 ≤ e ∧ e ≤ 647999 then 0 else 1) := by
  unfold place_CheckSite.f
  rw [Outside_eq, Outside_eq]
  simp only [Option.bind_some, decide_eq_true_eq]
  by_cases h : -324000 ≤ n ∧ n ≤ 324000
  · rw [if_neg (by omega)]
    by_cases h2 : -648000 ≤ e ∧ e ≤ 647999
    · rw [if_neg (by omega), if_pos ⟨h, h2⟩]
    · rw [if_pos (by omega), if_neg (by omega)]
  · rw [if_pos (by omega), if_neg (by omega)]
theorem SiteFault_eq (n e : Int) : pileref1_SiteFault.f n e = some (if (-324000 ≤ n ∧ n ≤ 324000) ∧ -648000 ≤ e ∧ e ≤ 647999 then 0 else 1) := by
  unfold pileref1_SiteFault.f
  rw [in_eq, in_eq]
  simp only [Option.bind_some, decide_eq_true_eq]
  by_cases h : -324000 ≤ n ∧ n ≤ 324000
  · rw [if_pos h]
    by_cases h2 : -648000 ≤ e ∧ e ≤ 647999
    · rw [if_pos h2, if_pos ⟨h, h2⟩]
    · rw [if_neg h2, if_neg (by omega)]
  · rw [if_neg h, if_neg (by omega)]
/-- A site that may be. -/
def Right (n e : Int) : Prop := (-324000 ≤ n ∧ n ≤ 324000) ∧ -648000 ≤ e ∧ e ≤ 647999
theorem mul_bd (a b A B : Int) (hA : 0 ≤ A) (_hB : 0 ≤ B) (ha : -A ≤ a ∧ a ≤ A) (hb : -B ≤ b ∧ b ≤ B) : -(A * B) ≤ a * b ∧ a * b ≤ A * B := by
  have h1 : (a.natAbs : Int) ≤ A := by omega
  have h2 : (b.natAbs : Int) ≤ B := by omega
  have h3 : (a.natAbs : Int) * (b.natAbs : Int) ≤ A * B := Int.mul_le_mul h1 h2 (by omega) hA
  have h4 : ((a * b).natAbs : Int) = (a.natAbs : Int) * (b.natAbs : Int) := by rw [Int.natAbs_mul]; push_cast; rfl
  omega
end Go.EV.Pure
namespace Go.EV.Pure
open Go Go.EV Go.RowKit
/-! Sites that the stream makes. -/
theorem SiteOf_j (n e : Int) (l : List Int) (s : Int) : Ev (fun k => pilemake_Stream_SiteOf.j4 k n e l s) (n, e, l, s) := Ev.from 1 fun k => rfl
theorem Odd_spec (l : List Int) (s a b : Int) (h0 : 0 ≤ s) (h1 : s ≤ 4611686018427387000) (ha : -1099511627776 ≤ a) (hb : b ≤ 1099511627776) (hab : a ≤ b) (hl : l.length ≤ 140737488351232) :
    ∃ r s', Ev (fun k => pilemake_Stream_Odd.f k l s a b) (r, l, s') ∧ s ≤ s' ∧ s' ≤ s + 2 := by
  obtain ⟨f, e1⟩ := Flip_spec l s 12 h0 (by omega) (by omega) hl
  cases f with
  | true =>
    obtain ⟨r, e2, _⟩ := Pick_spec l (s + 1) [wrap64 (a - 1), wrap64 (b + 1), a, b, (-1099511627776), 1099511627776] (by omega) (by omega) hl (by simp) (by simp)
    exact ⟨r, s + 1 + 1, Ev.bind e1 (Ev.pos rfl (Ev.bind e2 (Ev.now _))), by omega, by omega⟩
  | false =>
    obtain ⟨r, e2, _⟩ := Range_spec l (s + 1) a b (by omega) (by omega) ha hb hab hl
    exact ⟨r, s + 1 + 1, Ev.bind e1 (Ev.neg Bool.false_ne_true (Ev.bind e2 (Ev.now _))), by omega, by omega⟩
theorem SiteOf_spec (l : List Int) (s : Int) (h0 : 0 ≤ s) (h1 : s ≤ 4611686018427380000) (hl : l.length ≤ 140737488351232) :
    ∃ n e s', Ev (fun k => pilemake_Stream_SiteOf.f k l s) (n, e, l, s') ∧ s ≤ s' ∧ s' ≤ s + 20 := by
  obtain ⟨r1, e1, _⟩ := Range_spec l s (-324000) 324000 (by omega) (by omega) (by omega) (by omega) (by omega) hl
  obtain ⟨r2, e2, _⟩ := Pick_spec l (s + 1) [0, 172800, 174599, (-324000), 324000, r1] (by omega) (by omega) hl (by simp) (by simp)
  obtain ⟨r3, e3, _⟩ := Range_spec l (s + 1 + 1) (-648000) 647999 (by omega) (by omega) (by omega) (by omega) (by omega) hl
  obtain ⟨r4, e4, _⟩ := Pick_spec l (s + 1 + 1 + 1) [0, 36000, (-648000), 647999, r3] (by omega) (by omega) hl (by simp) (by simp)
  obtain ⟨f, e5⟩ := Flip_spec l (s + 1 + 1 + 1 + 1) 20 (by omega) (by omega) (by omega) hl
  cases f with
  | true =>
    obtain ⟨r6, s6, e6, b6, c6⟩ := Odd_spec l (s + 1 + 1 + 1 + 1 + 1) (-324000) 324000 (by omega) (by omega) (by omega) (by omega) (by omega) hl
    obtain ⟨r7, s7, e7, b7, c7⟩ := Odd_spec l s6 (-648000) 647999 (by omega) (by omega) (by omega) (by omega) (by omega) hl
    exact ⟨r6, r7, s7, Ev.bind e1 (Ev.bind e2 (Ev.bind e3 (Ev.bind e4 (Ev.bind e5 (Ev.pos rfl (Ev.bind e6 (Ev.bind e7 (SiteOf_j _ _ _ _)))))))), by omega, by omega⟩
  | false =>
    exact ⟨r2, r4, s + 1 + 1 + 1 + 1 + 1, Ev.bind e1 (Ev.bind e2 (Ev.bind e3 (Ev.bind e4 (Ev.bind e5 (Ev.neg Bool.false_ne_true (SiteOf_j _ _ _ _)))))), by omega, by omega⟩
theorem RightSite_loop (l : List Int) (hl : l.length ≤ 140737488351232) (d : Nat) : ∀ (i s : Int), 0 ≤ i → i + d = 6 → 0 ≤ s → s + 20 * d ≤ 4611686018427370000 →
    ∃ n e s', Ev (fun k => pilemake_Stream_RightSite.l0 k i l s) (n, e, l, s') ∧ Right n e ∧ s ≤ s' ∧ s' ≤ s + 20 * d := by
  induction d with
  | zero =>
    intro i s h0 hi hs _
    refine ⟨0, 0, s, Ev.step (f := fun _ => some _) (fun k => ?_) (Ev.now _), by unfold Right; omega, by omega, by omega⟩
    simp only [pilemake_Stream_RightSite.l0]
    rw [if_neg (by omega)]
  | succ d ih =>
    intro i s h0 hi hs h1
    obtain ⟨n, e, s', e1, b1, c1⟩ := SiteOf_spec l s hs (by omega) hl
    by_cases c : Right n e
    · refine ⟨n, e, s', Ev.succ ?_, c, by omega, by omega⟩
      simp only [pilemake_Stream_RightSite.l0]
      refine Ev.pos (by omega) (Ev.bind e1 ?_)
      simp only [SiteFault_eq, Option.bind_some]
      unfold Right at c
      exact Ev.pos (if_pos c) (Ev.now _)
    · obtain ⟨n2, e2, s2, e3, b2, c2, c3⟩ := ih (i + 1) s' (by omega) (by omega) (by omega) (by omega)
      refine ⟨n2, e2, s2, Ev.succ ?_, b2, by omega, by omega⟩
      simp only [pilemake_Stream_RightSite.l0, wrap_id (e := i + 1) (by omega) (by omega)]
      refine Ev.pos (by omega) (Ev.bind e1 ?_)
      simp only [SiteFault_eq, Option.bind_some]
      unfold Right at c
      exact Ev.neg (by rw [if_neg c]; omega) e3
theorem RightSite_spec (l : List Int) (s : Int) (h0 : 0 ≤ s) (h1 : s ≤ 4611686018427360000) (hl : l.length ≤ 140737488351232) :
    ∃ n e s', Ev (fun k => pilemake_Stream_RightSite.f k l s) (n, e, l, s') ∧ Right n e ∧ s ≤ s' ∧ s' ≤ s + 120 := by
  obtain ⟨n, e, s', a, b, c, d⟩ := RightSite_loop l hl 6 0 s (by omega) (by omega) h0 (by omega)
  exact ⟨n, e, s', a, b, c, by omega⟩
end Go.EV.Pure
namespace Go.EV.Pure
open Go Go.EV Go.RowKit
set_option maxRecDepth 100000
theorem ready_ev : Ev (fun k => pilekeep1_ready.f k) true := Ev.from 300 fun k => (by kernel_rfl : pilekeep1_ready.f (k + 300) = some true)
end Go.EV.Pure
namespace Go.EV.Pure
open Go Go.EV Go.RowKit
set_option linter.unusedSimpArgs false
/-! Locators: of sites, their areas and middles. -/
theorem bt_bytes (l : List Int) (i : Nat) (h : i < l.length) (h0 : 0 ≤ l[i] ∧ l[i] < 256) : bt (bytesE l) (i : Int) = l[i] := by
  unfold bt bytesE
  have hs : (Int.toNat (i : Int)) < (strOfNums l).size := by rw [strOfNums_size]; simpa using h
  rw [dif_pos hs]
  have : (strOfNums l)[Int.toNat (i : Int)]'hs = UInt8.ofNat (l[i]).toNat := by
    show (strOfNums l).data[Int.toNat (i : Int)] = _
    simp [strOfNums]
  rw [this, UInt8.toNat_ofNat']
  omega
theorem bytes_size (l : List Int) : (bytesE l).size = l.length := strOfNums_size l
theorem bytes_take (l : List Int) (m : Nat) : (bytesE l).extract 0 m = bytesE (l.take m) := by
  unfold bytesE
  apply ByteArray.ext
  simp [strOfNums, ByteArray.data_extract, List.map_take]
def lvF (i : Nat) : Int := if i < 2 then 97 else if i < 4 then 48 else 97
def lvM (i : Nat) : Int := if i < 2 then 18 else if i < 4 then 10 else 24
def lvW (i : Nat) : Int := if i < 2 then 72000 else if i < 4 then 7200 else 300
def lvH (i : Nat) : Int := if i < 2 then 36000 else if i < 4 then 3600 else 150
def lvL : List (Int × Int × Int × Int) := [(18, 97, 72000, 36000), (10, 48, 7200, 3600), (24, 97, 300, 150)]
theorem levels_eq : place_levels.f = some lvL := rfl
theorem six (i : Nat) (h : i < 6) : i = 0 ∨ i = 1 ∨ i = 2 ∨ i = 3 ∨ i = 4 ∨ i = 5 := by omega
theorem lv_rd (i : Nat) (h : i < 6) : wrap64 (Int.tdiv (i : Int) 2) = ((i / 2 : Nat) : Int) ∧ rdE e_IIII lvL ((i / 2 : Nat) : Int) = (lvM i, lvF i, lvW i, lvH i) := by
  rcases six i h with rfl | rfl | rfl | rfl | rfl | rfl <;> exact ⟨by rw [tdiv_pos (by omega), wrap_id (by omega) (by omega)]; rfl, rfl⟩
/-- The number that a byte of a locator stands for. -/
def lvV (s : ByteArray) (i : Nat) : Int := bt s (i : Int) - lvF i
def locOK (s : ByteArray) : Prop := (s.size = 2 ∨ s.size = 4 ∨ s.size = 6) ∧ ∀ i < s.size, 0 ≤ lvV s i ∧ lvV s i < lvM i
theorem lvM_bd (i : Nat) : 0 < lvM i ∧ lvM i < 200 := by unfold lvM; split <;> (try split) <;> omega
theorem IsLocator_loop (s : ByteArray) (h : locOK s) (d : Nat) : ∀ i : Nat, i + d = s.size → Ev (fun k => place_IsLocator.l0 k s (i : Int)) true := by
  have hs := h.1
  induction d with
  | zero =>
    intro i hi
    refine Ev.step (f := fun _ => some _) (fun k => ?_) (Ev.now _)
    simp only [place_IsLocator.l0]
    rw [if_neg (by omega)]
  | succ d ih =>
    intro i hi
    obtain ⟨q1, q2⟩ := lv_rd i (by omega)
    obtain ⟨v0, v1⟩ := h.2 i (by omega)
    have hM := lvM_bd i
    have hlen : (lvL.length : Int) = 3 := rfl
    unfold lvV at v0 v1
    have e0 : (bt s (i : Int) - lvF i) % 256 = bt s (i : Int) - lvF i := by omega
    refine Ev.step (fun k => ?_) (ih (i + 1) (by omega))
    simp only [place_IsLocator.l0, levels_eq, Option.bind_some, q1, q2, hlen, e0]
    rw [if_pos (by omega), if_pos (by omega), if_pos (by omega), if_pos (by omega), if_pos (by omega), if_neg (by omega), if_pos (by omega), if_pos (by omega), wrap_id (e := bt s (i : Int) - lvF i) (by omega) (by omega), if_neg (by omega), wrap_succ (by omega)]
theorem IsLocator_ev (s : ByteArray) (h : locOK s) : Ev (fun k => place_IsLocator.f k s) true := by
  have hl := IsLocator_loop s h s.size 0 (by omega)
  unfold place_IsLocator.f
  rcases h.1 with c | c | c
  · exact Ev.pos (by omega) hl
  · exact Ev.neg (by omega) (Ev.pos (by omega) hl)
  · exact Ev.neg (by omega) (Ev.neg (by omega) (Ev.pos (by omega) hl))
theorem area_step (s : ByteArray) (i : Nat) (h6 : i + 1 < 6) (he : i % 2 = 0) (hi : i + 1 < s.size) (v0 : 0 ≤ lvV s i ∧ lvV s i < 200) (v1 : 0 ≤ lvV s (i + 1) ∧ lvV s (i + 1) < 200) (n e : Int) (hn : -100000000 ≤ n ∧ n ≤ 100000000) (hE : -100000000 ≤ e ∧ e ≤ 100000000) (a b c d : Int) {r : Int × Int × Int × Int}
    (h : Ev (fun k => place_area.l0 k s ((i + 2 : Nat) : Int) (n + lvV s (i + 1) * lvH i) (e + lvV s i * lvW i) (lvM i) (lvF i) (lvW i) (lvH i)) r) : Ev (fun k => place_area.l0 k s (i : Int) n e a b c d) r := by
  obtain ⟨q1, q2⟩ := lv_rd i (by omega)
  have hlen : (lvL.length : Int) = 3 := rfl
  have hF : lvF (i + 1) = lvF i := by unfold lvF; rcases six i (by omega) with rfl | rfl | rfl | rfl | rfl | rfl <;> first | rfl | omega
  have hW : 0 ≤ lvW i ∧ lvW i ≤ 72000 := by unfold lvW; split <;> (try split) <;> omega
  have hH : 0 ≤ lvH i ∧ lvH i ≤ 36000 := by unfold lvH; split <;> (try split) <;> omega
  have w1 : wrap64 ((i : Int) + 1) = ((i + 1 : Nat) : Int) := wrap_succ (by omega)
  have w2 : wrap64 ((i : Int) + 2) = ((i + 2 : Nat) : Int) := by rw [wrap_id (by omega) (by omega)]; rfl
  have e0 : wrap64 ((bt s (i : Int) - lvF i) % 256) = lvV s i := by rw [wrap_id (by omega) (by omega)]; have hv := v0; unfold lvV at hv ⊢; omega
  have e1 : wrap64 ((bt s ((i + 1 : Nat) : Int) - lvF i) % 256) = lvV s (i + 1) := by rw [wrap_id (by omega) (by omega)]; have hv := v1; unfold lvV at hv ⊢; rw [hF] at hv ⊢; omega
  have m0 := mul_bd (lvV s i) (lvW i) 200 72000 (by omega) (by omega) (by omega) (by omega)
  have m1 := mul_bd (lvV s (i + 1)) (lvH i) 200 36000 (by omega) (by omega) (by omega) (by omega)
  refine Ev.step (fun k => ?_) h
  simp only [place_area.l0, levels_eq, Option.bind_some, q1, q2, hlen, w1, w2, e0, e1]
  rw [if_pos (by omega), if_pos (by omega), if_pos (by omega), if_pos (by omega), if_pos (by omega), if_pos (by omega), if_pos (by omega)]
  rw [wrap_id (e := lvV s i * lvW i) (by omega) (by omega), wrap_id (e := lvV s (i + 1) * lvH i) (by omega) (by omega), wrap_id (e := n + lvV s (i + 1) * lvH i) (by omega) (by omega), wrap_id (e := e + lvV s i * lvW i) (by omega) (by omega)]
theorem area_end (s : ByteArray) (i : Nat) (hi : s.size = i + 2) (h6 : i + 1 < 6) (n e : Int) (hn : -100000000 ≤ n ∧ n ≤ 100000000) (hE : -100000000 ≤ e ∧ e ≤ 100000000) :
    Ev (fun k => place_area.l0 k s ((i + 2 : Nat) : Int) n e (lvM i) (lvF i) (lvW i) (lvH i)) (n, e, n + lvH i, e + lvW i) := by
  have hW : 0 ≤ lvW i ∧ lvW i ≤ 72000 ∧ lvW i = 2 * lvH i := by unfold lvW lvH; split <;> (try split) <;> omega
  refine Ev.step (f := fun _ => some _) (fun k => ?_) (Ev.now _)
  simp only [place_area.l0]
  rw [if_neg (by omega), wrap_id (by omega) (by omega), wrap_id (by omega) (by omega)]
/-- The digits of a site, from the south-west. -/
def dig (N E : Int) : List Int := [97 + E / 72000, 97 + N / 36000, 48 + E % 72000 / 7200, 48 + N % 36000 / 3600, 97 + E % 72000 % 7200 / 300, 97 + N % 36000 % 3600 / 150]
def loc (N E : Int) (m : Nat) : ByteArray := bytesE ((dig N E).take m)
def inW (N E : Int) : Prop := (0 ≤ N ∧ N ≤ 647999) ∧ 0 ≤ E ∧ E ≤ 1295999
theorem dig_bd (N E : Int) (h : inW N E) : ∀ i : Nat, (hi : i < 6) → 0 ≤ (dig N E)[i]'(by simpa [dig] using hi) - lvF i ∧ (dig N E)[i]'(by simpa [dig] using hi) - lvF i < lvM i := by
  intro i hi
  unfold inW at h
  rcases six i hi with rfl | rfl | rfl | rfl | rfl | rfl <;> simp [dig, lvF, lvM] <;> omega
theorem loc_size (N E : Int) (m : Nat) (hm : m ≤ 6) : (loc N E m).size = m := by
  unfold loc
  rw [bytes_size]
  simp [dig]
  omega
theorem loc_V (N E : Int) (m : Nat) (h : inW N E) (hm : m ≤ 6) (i : Nat) (hi : i < m) : lvV (loc N E m) i = (dig N E)[i]'(by simp [dig]; omega) - lvF i := by
  have hb := dig_bd N E h i (by omega)
  have hl : i < ((dig N E).take m).length := by simp [dig]; omega
  have hF : 0 ≤ lvF i ∧ lvF i ≤ 97 := by unfold lvF; split <;> (try split) <;> omega
  have hM := lvM_bd i
  have hM2 : lvM i ≤ 24 := by unfold lvM; split <;> (try split) <;> omega
  have e : ((dig N E).take m)[i] = (dig N E)[i]'(by simp [dig]; omega) := by simp
  unfold lvV loc
  rw [bt_bytes _ i hl (by rw [e]; omega), e]
theorem loc_ok (N E : Int) (m : Nat) (h : inW N E) (hm : m = 2 ∨ m = 4 ∨ m = 6) : locOK (loc N E m) := by
  have hs := loc_size N E m (by omega)
  refine ⟨by omega, fun i hi => ?_⟩
  rw [hs] at hi
  rw [loc_V N E m h (by omega) i hi]
  exact dig_bd N E h i (by omega)
/-- How high areas are. -/
def hOf (m : Nat) : Int := if m = 2 then 36000 else if m = 4 then 3600 else 150
theorem area_ev (N E : Int) (m : Nat) (h : inW N E) (hm : m = 2 ∨ m = 4 ∨ m = 6) :
    Ev (fun k => place_area.f k (loc N E m)) (N - N % hOf m - 324000, E - E % (2 * hOf m) - 648000, N - N % hOf m - 324000 + hOf m, E - E % (2 * hOf m) - 648000 + 2 * hOf m) := by
  have hs := loc_size N E m (by omega)
  have hV := fun i hi => loc_V N E m h (by omega) i hi
  have hB := dig_bd N E h
  have H0 : lvH 0 = 36000 := rfl
  have H2 : lvH 2 = 3600 := rfl
  have H4 : lvH 4 = 150 := rfl
  have W0 : lvW 0 = 72000 := rfl
  have W2 : lvW 2 = 7200 := rfl
  have W4 : lvW 4 = 300 := rfl
  have k0 : lvV (loc N E m) 0 = E / 72000 := by rw [hV 0 (by omega)]; simp [dig, lvF] <;> omega
  have k1 : lvV (loc N E m) (0 + 1) = N / 36000 := by rw [hV 1 (by omega)]; simp [dig, lvF] <;> omega
  unfold inW at h
  unfold place_area.f
  generalize loc N E m = s at *
  rcases hm with rfl | rfl | rfl
  · refine area_step s 0 (by omega) rfl (by omega) (by omega) (by omega) _ _ (by omega) (by omega) _ _ _ _ ?_
    have := area_end s 0 hs (by omega) (-324000 + lvV s (0 + 1) * lvH 0) (-648000 + lvV s 0 * lvW 0) (by rw [k1, H0]; omega) (by rw [k0, W0]; omega)
    have e : (-324000 + lvV s (0 + 1) * lvH 0, -648000 + lvV s 0 * lvW 0, -324000 + lvV s (0 + 1) * lvH 0 + lvH 0, -648000 + lvV s 0 * lvW 0 + lvW 0) = (N - N % hOf 2 - 324000, E - E % (2 * hOf 2) - 648000, N - N % hOf 2 - 324000 + hOf 2, E - E % (2 * hOf 2) - 648000 + 2 * hOf 2) := by
      rw [k0, k1, H0, W0]
      have : hOf 2 = 36000 := rfl
      rw [this]
      refine Prod.ext (by simp only; omega) (Prod.ext (by simp only; omega) (Prod.ext (by simp only; omega) (by simp only; omega)))
    rw [← e]
    exact this
  · have k2 : lvV s 2 = E % 72000 / 7200 := by rw [hV 2 (by omega)]; simp [dig, lvF] <;> omega
    have k3 : lvV s (2 + 1) = N % 36000 / 3600 := by rw [hV 3 (by omega)]; simp [dig, lvF] <;> omega
    refine area_step s 0 (by omega) rfl (by omega) (by omega) (by omega) _ _ (by omega) (by omega) _ _ _ _ ?_
    refine area_step s 2 (by omega) rfl (by omega) (by omega) (by omega) _ _ (by rw [k1, H0]; omega) (by rw [k0, W0]; omega) _ _ _ _ ?_
    have := area_end s 2 hs (by omega) (-324000 + lvV s (0 + 1) * lvH 0 + lvV s (2 + 1) * lvH 2) (-648000 + lvV s 0 * lvW 0 + lvV s 2 * lvW 2) (by rw [k1, k3, H0, H2]; omega) (by rw [k0, k2, W0, W2]; omega)
    have e : (-324000 + lvV s (0 + 1) * lvH 0 + lvV s (2 + 1) * lvH 2, -648000 + lvV s 0 * lvW 0 + lvV s 2 * lvW 2, -324000 + lvV s (0 + 1) * lvH 0 + lvV s (2 + 1) * lvH 2 + lvH 2, -648000 + lvV s 0 * lvW 0 + lvV s 2 * lvW 2 + lvW 2) = (N - N % hOf 4 - 324000, E - E % (2 * hOf 4) - 648000, N - N % hOf 4 - 324000 + hOf 4, E - E % (2 * hOf 4) - 648000 + 2 * hOf 4) := by
      rw [k0, k1, k2, k3, H0, W0, H2, W2]
      have : hOf 4 = 3600 := rfl
      rw [this]
      refine Prod.ext (by simp only; omega) (Prod.ext (by simp only; omega) (Prod.ext (by simp only; omega) (by simp only; omega)))
    rw [← e]
    exact this
  · have k2 : lvV s 2 = E % 72000 / 7200 := by rw [hV 2 (by omega)]; simp [dig, lvF] <;> omega
    have k3 : lvV s (2 + 1) = N % 36000 / 3600 := by rw [hV 3 (by omega)]; simp [dig, lvF] <;> omega
    have k4 : lvV s 4 = E % 72000 % 7200 / 300 := by rw [hV 4 (by omega)]; simp [dig, lvF] <;> omega
    have k5 : lvV s (4 + 1) = N % 36000 % 3600 / 150 := by rw [hV 5 (by omega)]; simp [dig, lvF] <;> omega
    refine area_step s 0 (by omega) rfl (by omega) (by omega) (by omega) _ _ (by omega) (by omega) _ _ _ _ ?_
    refine area_step s 2 (by omega) rfl (by omega) (by omega) (by omega) _ _ (by rw [k1, H0]; omega) (by rw [k0, W0]; omega) _ _ _ _ ?_
    refine area_step s 4 (by omega) rfl (by omega) (by omega) (by omega) _ _ (by rw [k1, k3, H0, H2]; omega) (by rw [k0, k2, W0, W2]; omega) _ _ _ _ ?_
    have := area_end s 4 hs (by omega) (-324000 + lvV s (0 + 1) * lvH 0 + lvV s (2 + 1) * lvH 2 + lvV s (4 + 1) * lvH 4) (-648000 + lvV s 0 * lvW 0 + lvV s 2 * lvW 2 + lvV s 4 * lvW 4) (by rw [k1, k3, k5, H0, H2, H4]; omega) (by rw [k0, k2, k4, W0, W2, W4]; omega)
    have e : (-324000 + lvV s (0 + 1) * lvH 0 + lvV s (2 + 1) * lvH 2 + lvV s (4 + 1) * lvH 4, -648000 + lvV s 0 * lvW 0 + lvV s 2 * lvW 2 + lvV s 4 * lvW 4, -324000 + lvV s (0 + 1) * lvH 0 + lvV s (2 + 1) * lvH 2 + lvV s (4 + 1) * lvH 4 + lvH 4, -648000 + lvV s 0 * lvW 0 + lvV s 2 * lvW 2 + lvV s 4 * lvW 4 + lvW 4) = (N - N % hOf 6 - 324000, E - E % (2 * hOf 6) - 648000, N - N % hOf 6 - 324000 + hOf 6, E - E % (2 * hOf 6) - 648000 + 2 * hOf 6) := by
      rw [k0, k1, k2, k3, k4, k5, H0, W0, H2, W2, H4, W4]
      have : hOf 6 = 150 := rfl
      rw [this]
      refine Prod.ext (by simp only; omega) (Prod.ext (by simp only; omega) (Prod.ext (by simp only; omega) (by simp only; omega)))
    rw [← e]
    exact this
end Go.EV.Pure
namespace Go.EV.Pure
open Go Go.EV Go.RowKit
set_option linter.unusedSimpArgs false
theorem locator_step (q j : Nat) (hq : q ≤ 3) (hj : j < q) (x5 x6 : Int) (h5 : 0 ≤ x5 ∧ x5 / lvW (2 * j) < lvM (2 * j)) (h6 : 0 ≤ x6 ∧ x6 / lvH (2 * j) < lvM (2 * j)) (o : List Int) (ho : o.length ≤ 100) {v : ByteArray}
    (h : Ev (fun k => place_locator.l0 k (x5 % lvW (2 * j)) (x6 % lvH (2 * j)) (lvL.take q) (q : Int) ((j + 1 : Nat) : Int) (o ++ [lvF (2 * j) + x5 / lvW (2 * j), lvF (2 * j) + x6 / lvH (2 * j)])) v) :
    Ev (fun k => place_locator.l0 k x5 x6 (lvL.take q) (q : Int) (j : Int) o) v := by
  have hlen : ((lvL.take q).length : Int) = q := by simp [lvL]; omega
  have hr : rdE e_IIII (lvL.take q) (j : Int) = (lvM (2 * j), lvF (2 * j), lvW (2 * j), lvH (2 * j)) := by
    rw [rdE_get e_IIII _ j (by omega), List.getElem_take]
    rcases (by omega : j = 0 ∨ j = 1 ∨ j = 2) with rfl | rfl | rfl <;> rfl
  have hW : 0 < lvW (2 * j) ∧ 0 < lvH (2 * j) := by constructor <;> (first | unfold lvW | unfold lvH) <;> split <;> (try split) <;> omega
  have hF : 0 ≤ lvF (2 * j) ∧ lvF (2 * j) ≤ 97 := by unfold lvF; split <;> (try split) <;> omega
  have hM : lvM (2 * j) ≤ 24 := by unfold lvM; split <;> (try split) <;> omega
  have n5 := Int.ediv_nonneg h5.1 (show 0 ≤ lvW (2 * j) by omega)
  have n6 := Int.ediv_nonneg h6.1 (show 0 ≤ lvH (2 * j) by omega)
  refine Ev.step (fun k => ?_) h
  simp only [place_locator.l0, hr, tdiv_pos h5.1, tdiv_pos h6.1, tmod_pos h5.1, tmod_pos h6.1]
  generalize x5 / lvW (2 * j) = a at *
  generalize x6 / lvH (2 * j) = b at *
  rw [if_pos (by omega), if_pos (by omega), if_pos (by omega), if_neg (by omega), if_neg (by omega), if_pos (by simp; omega), if_neg (by omega), if_neg (by omega), wrap_id (e := a) (by omega) (by omega), wrap_id (e := b) (by omega) (by omega), wrap_succ (by omega),
    show (lvF (2 * j) + a % 256) % 256 = lvF (2 * j) + a by omega, show (lvF (2 * j) + b % 256) % 256 = lvF (2 * j) + b by omega]
theorem locator_end (q : Nat) (hq : q ≤ 3) (x5 x6 : Int) (o : List Int) : Ev (fun k => place_locator.l0 k x5 x6 (lvL.take q) (q : Int) (q : Int) o) (bytesE o) := by
  refine Ev.step (f := fun _ => some _) (fun k => ?_) (Ev.now _)
  simp only [place_locator.l0]
  rw [if_neg (by omega)]
theorem locator_ev (n e : Int) (hs : Right n e) (m : Nat) (hm : m = 2 ∨ m = 4 ∨ m = 6) : Ev (fun k => place_locator.f k n e (m : Int)) (loc (mn (n + 324000) 647999) (e + 648000) m) := by
  unfold Right at hs
  unfold place_locator.f
  have hN : 0 ≤ mn (n + 324000) 647999 ∧ mn (n + 324000) 647999 ≤ 647999 := by rw [mn_eq]; split <;> omega
  have ht : wrap64 (Int.tdiv (m : Int) 2) = ((m / 2 : Nat) : Int) := by rw [tdiv_pos (by omega), wrap_id (by omega) (by omega)]; omega
  simp only [levels_eq, Option.bind_some, ht, Int.toNat_natCast, wrap_id (e := n + 324000) (by omega) (by omega), wrap_id (e := e + 648000) (by omega) (by omega)]
  have hl : (lvL.length : Int) = 3 := rfl
  have hlen : ∀ q : Nat, q ≤ 3 → ((lvL.take q).length : Int) = q := fun q hq => by simp [lvL]; omega
  generalize mn (n + 324000) 647999 = N at *
  generalize hE : e + 648000 = E at *
  refine Ev.pos (by omega) (Ev.pos (by omega) ?_)
  simp only [hlen (m / 2) (by omega)]
  have W0 : lvW (2 * 0) = 72000 := rfl
  have W1 : lvW (2 * 1) = 7200 := rfl
  have W2 : lvW (2 * 2) = 300 := rfl
  have H0 : lvH (2 * 0) = 36000 := rfl
  have H1 : lvH (2 * 1) = 3600 := rfl
  have H2 : lvH (2 * 2) = 150 := rfl
  have M0 : lvM (2 * 0) = 18 := rfl
  have M1 : lvM (2 * 1) = 10 := rfl
  have M2 : lvM (2 * 2) = 24 := rfl
  rcases hm with rfl | rfl | rfl
  · refine locator_step 1 0 (by omega) (by omega) E N ?_ ?_ [] (by simp) ?_
    · rw [W0, M0]; omega
    · rw [H0, M0]; omega
    exact locator_end 1 (by omega) _ _ _
  · refine locator_step 2 0 (by omega) (by omega) E N ?_ ?_ [] (by simp) ?_
    · rw [W0, M0]; omega
    · rw [H0, M0]; omega
    refine locator_step 2 1 (by omega) (by omega) _ _ ?_ ?_ _ (by simp) ?_
    · rw [W0, W1, M1]; omega
    · rw [H0, H1, M1]; omega
    exact locator_end 2 (by omega) _ _ _
  · refine locator_step 3 0 (by omega) (by omega) E N ?_ ?_ [] (by simp) ?_
    · rw [W0, M0]; omega
    · rw [H0, M0]; omega
    refine locator_step 3 1 (by omega) (by omega) _ _ ?_ ?_ _ (by simp) ?_
    · rw [W0, W1, M1]; omega
    · rw [H0, H1, M1]; omega
    refine locator_step 3 2 (by omega) (by omega) _ _ ?_ ?_ _ (by simp) ?_
    · rw [W0, W1, W2, M2]; omega
    · rw [H0, H1, H2, M2]; omega
    exact locator_end 3 (by omega) _ _ _
theorem Locator_ev (n e : Int) (hs : Right n e) (m : Nat) (hm : m = 2 ∨ m = 4 ∨ m = 6) : Ev (fun k => place_Locator.f k n e (m : Int)) (loc (mn (n + 324000) 647999) (e + 648000) m, 0) := by
  have h := locator_ev n e hs m hm
  have hb : Ev (fun k => (place_locator.f k n e (m : Int)).bind fun r => Option.some (r, (0 : Int))) (loc (mn (n + 324000) 647999) (e + 648000) m, 0) := Ev.bind h (Ev.now _)
  unfold place_Locator.f
  simp only [CheckSite_eq, Option.bind_some]
  unfold Right at hs
  refine Ev.pos (if_pos hs) ?_
  rcases hm with rfl | rfl | rfl
  · exact Ev.pos (by omega) hb
  · exact Ev.neg (by omega) (Ev.pos (by omega) hb)
  · exact Ev.neg (by omega) (Ev.neg (by omega) (Ev.pos (by omega) hb))
theorem hOf_bd (m : Nat) : 150 ≤ hOf m ∧ hOf m ≤ 36000 := by unfold hOf; split <;> (try split) <;> omega
/-- The middle of a locator has the same digits. -/
theorem loc_mid (N E : Int) (m : Nat) (h : inW N E) (hm : m = 2 ∨ m = 4 ∨ m = 6) : loc (N - N % hOf m + hOf m / 2) (E - E % (2 * hOf m) + hOf m) m = loc N E m ∧ inW (N - N % hOf m + hOf m / 2) (E - E % (2 * hOf m) + hOf m) := by
  unfold inW at *
  rcases hm with rfl | rfl | rfl
  · have : hOf 2 = 36000 := rfl
    rw [this]
    refine ⟨?_, by omega⟩
    unfold loc dig
    simp only [List.take_succ_cons, List.take_zero]
    congr 1
    refine List.cons_eq_cons.2 ⟨by omega, List.cons_eq_cons.2 ⟨by omega, rfl⟩⟩
  · have : hOf 4 = 3600 := rfl
    rw [this]
    refine ⟨?_, by omega⟩
    unfold loc dig
    simp only [List.take_succ_cons, List.take_zero]
    congr 1
    refine List.cons_eq_cons.2 ⟨by omega, List.cons_eq_cons.2 ⟨by omega, List.cons_eq_cons.2 ⟨by omega, List.cons_eq_cons.2 ⟨by omega, rfl⟩⟩⟩⟩
  · have : hOf 6 = 150 := rfl
    rw [this]
    refine ⟨?_, by omega⟩
    unfold loc dig
    simp only [List.take_succ_cons, List.take_zero]
    congr 1
    refine List.cons_eq_cons.2 ⟨by omega, List.cons_eq_cons.2 ⟨by omega, List.cons_eq_cons.2 ⟨by omega, List.cons_eq_cons.2 ⟨by omega, List.cons_eq_cons.2 ⟨by omega, List.cons_eq_cons.2 ⟨by omega, rfl⟩⟩⟩⟩⟩⟩
theorem Holds_step (n e : Int) (hs : Right n e) (i m : Nat) (hi : i < 3) (hr : rd [2, 4, 6] (i : Int) = (m : Int)) (hm : m = 2 ∨ m = 4 ∨ m = 6) (last : ByteArray)
    (hlast : last = (⟨#[]⟩ : ByteArray) ∨ ∃ m', (m' = 2 ∨ m' = 4 ∨ m' = 6) ∧ m' ≤ m ∧ last = loc (mn (n + 324000) 647999) (e + 648000) m') {v : Bool}
    (h : Ev (fun k => pilekeep1_LocatorsHoldTheirSites.l0 k (loc (mn (n + 324000) 647999) (e + 648000) m) ((i + 1 : Nat) : Int) n e) v) :
    Ev (fun k => pilekeep1_LocatorsHoldTheirSites.l0 k last (i : Int) n e) v := by
  have h4 := Locator_ev n e hs m hm
  have hs' := hs
  unfold Right at hs'
  have hNb : 0 ≤ mn (n + 324000) 647999 ∧ mn (n + 324000) 647999 ≤ 647999 ∧ mn (n + 324000) 647999 ≤ n + 324000 ∧ (n < 324000 → mn (n + 324000) 647999 = n + 324000) ∧ (n = 324000 → mn (n + 324000) 647999 = 647999) := by rw [mn_eq]; split <;> omega
  generalize hNN : mn (n + 324000) 647999 = N at *
  generalize hEE : e + 648000 = E at *
  have hin : inW N E := by unfold inW; omega
  have hok := loc_ok N E m hin hm
  have hA := area_ev N E m hin hm
  have hH := hOf_bd m
  obtain ⟨hmid, hmin⟩ := loc_mid N E m hin hm
  have hdvd : (N - N % hOf m) % hOf m = 0 ∧ 648000 % hOf m = 0 := by
    rcases hm with rfl | rfl | rfl
    · have : hOf 2 = 36000 := rfl
      rw [this]; omega
    · have : hOf 4 = 3600 := rfl
      rw [this]; omega
    · have : hOf 6 = 150 := rfl
      rw [this]; omega
  have hEm := Int.emod_nonneg E (show 2 * hOf m ≠ 0 by omega)
  have hEm2 := Int.emod_lt_of_pos E (show 0 < 2 * hOf m by omega)
  have hNm := Int.emod_nonneg N (show hOf m ≠ 0 by omega)
  have hNm2 := Int.emod_lt_of_pos N (show 0 < hOf m by omega)
  have htop : n = 324000 → N - N % hOf m + hOf m = 648000 := fun hn => by
    have := hNb.2.2.2.2 hn
    subst this
    rcases hm with rfl | rfl | rfl
    · have : hOf 2 = 36000 := rfl
      rw [this]; omega
    · have : hOf 4 = 3600 := rfl
      rw [this]; omega
    · have : hOf 6 = 150 := rfl
      rw [this]; omega
  have hpar : hOf m / 2 + hOf m / 2 = hOf m := by
    rcases hm with rfl | rfl | rfl <;> rfl
  unfold inW at hin hmin
  have h5 : Ev (fun k => place_AreaOf.f k (loc N E m)) (N - N % hOf m - 324000, E - E % (2 * hOf m) - 648000, N - N % hOf m - 324000 + hOf m, E - E % (2 * hOf m) - 648000 + 2 * hOf m, 0) :=
    Ev.bind (IsLocator_ev _ hok) (Ev.pos rfl (Ev.bind hA (Ev.now _)))
  have h6 : Ev (fun k => place_Middle.f k (loc N E m)) (N - N % hOf m - 324000 + hOf m / 2, E - E % (2 * hOf m) - 648000 + hOf m, 0) := by
    refine Ev.bind (IsLocator_ev _ hok) (Ev.pos rfl (Ev.bind (f := fun k => place_middle.f k (loc N E m)) (Ev.bind hA (Ev.now _)) ?_))
    simp only
    generalize N % hOf m = rn at *
    generalize E % (2 * hOf m) = re at *
    generalize hOf m = H at *
    rw [wrap_id (e := N - rn - 324000 + H - (N - rn - 324000)) (by omega) (by omega), show N - rn - 324000 + H - (N - rn - 324000) = H by omega, tdiv_pos (a := H) (by omega), wrap_id (e := H / 2) (by omega) (by omega), wrap_id (e := N - rn - 324000 + H / 2) (by omega) (by omega),
      wrap_id (e := E - re - 648000 + 2 * H - (E - re - 648000)) (by omega) (by omega), show E - re - 648000 + 2 * H - (E - re - 648000) = 2 * H by omega, tdiv_pos (a := 2 * H) (by omega), show 2 * H / 2 = H by omega, wrap_id (e := H) (by omega) (by omega), wrap_id (e := E - re - 648000 + H) (by omega) (by omega)]
    exact Ev.now _
  have h7 : Ev (fun k => place_Locator.f k (N - N % hOf m - 324000 + hOf m / 2) (E - E % (2 * hOf m) - 648000 + hOf m) (m : Int)) (loc N E m, 0) := by
    have h7 := Locator_ev (N - N % hOf m - 324000 + hOf m / 2) (E - E % (2 * hOf m) - 648000 + hOf m) (by unfold Right; omega) m hm
    have e1 : mn (N - N % hOf m - 324000 + hOf m / 2 + 324000) 647999 = N - N % hOf m + hOf m / 2 := by rw [mn_eq, if_neg (by omega)]; omega
    have e2 : E - E % (2 * hOf m) - 648000 + hOf m + 648000 = E - E % (2 * hOf m) + hOf m := by omega
    rw [e1, e2, hmid] at h7
    exact h7
  have hj : Ev (fun k => pilekeep1_LocatorsHoldTheirSites.j20 k (i : Int) n e (loc N E m)) v := Ev.step (fun k => by simp only [pilekeep1_LocatorsHoldTheirSites.j20]; rw [wrap_succ (by omega)]) h
  have hsz : ((loc N E m).size : Int) = (m : Int) := by rw [loc_size N E m (by omega)]
  have hw : Ev (fun k => if last = (⟨#[]⟩ : ByteArray) then pilekeep1_LocatorsHoldTheirSites.j20 k (i : Int) n e (loc N E m) else (place_Within.f k (loc N E m) last).bind fun r => (if r.2 = 0 then (if r.1 = true then pilekeep1_LocatorsHoldTheirSites.j20 k (i : Int) n e (loc N E m) else Option.some false) else Option.some false)) v := by
    refine Ev.ite (fun _ => hj) fun c => ?_
    obtain ⟨m', hm', hle, rfl⟩ : ∃ m', (m' = 2 ∨ m' = 4 ∨ m' = 6) ∧ m' ≤ m ∧ last = loc N E m' := hlast.resolve_left c
    have hsz' : ((loc N E m').size : Int) = (m' : Int) := by rw [loc_size N E m' (by omega)]
    have hex : (loc N E m).extract 0 m' = loc N E m' := by
      unfold loc
      rw [bytes_take, List.take_take, Nat.min_eq_left hle]
    have hW : Ev (fun k => place_Within.f k (loc N E m) (loc N E m')) (true, 0) := by
      refine Ev.bind (IsLocator_ev _ hok) (Ev.pos rfl (Ev.bind (IsLocator_ev _ (loc_ok N E m' (by unfold inW; omega) hm')) (Ev.pos rfl ?_)))
      simp only [hsz, hsz', Int.toNat_natCast, hex, decide_true]
      exact Ev.pos (by omega) (Ev.pos (by omega) (Ev.pos (by omega) (Ev.now _)))
    exact Ev.bind hW (Ev.pos rfl (Ev.pos rfl hj))
  refine Ev.succ ?_
  simp only [pilekeep1_LocatorsHoldTheirSites.l0, hr]
  have hlen : (([2, 4, 6] : List Int).length : Int) = 3 := rfl
  refine Ev.pos (by omega) (Ev.pos (by omega) (Ev.pos (by omega) (Ev.bind h4 (Ev.bind h5 (Ev.bind h6 (Ev.bind h7 (Ev.pos rfl (Ev.pos rfl (Ev.pos rfl (Ev.pos rfl (Ev.pos rfl (Ev.pos hsz ?_))))))))))))
  by_cases c : n = 324000
  · have := htop c
    have := hNb.2.2.2.2 c
    refine Ev.pos c (Ev.neg (by omega) (Ev.ite (fun _ => Ev.pos (by simp only; omega) (Ev.neg (by simp only; omega) (Ev.neg (by simp only; omega) hw))) (fun _ => Ev.neg (by simp only; omega) (Ev.neg (by simp only; omega) hw))))
  · have := hNb.2.2.2.1 (by omega)
    exact Ev.neg c (Ev.neg (by simp only; omega) (Ev.neg (by simp only; omega) (Ev.neg (by simp only; omega) (Ev.neg (by simp only; omega) hw))))
theorem LocatorsHoldTheirSites (l : List Int) (hl : l.length ≤ 140737488351232) : ∃ k, pilekeep1_LocatorsHoldTheirSites.f k l = some true := by
  obtain ⟨n, e, s, e1, hs, b1, c1⟩ := RightSite_spec l 0 (by omega) (by omega) hl
  have hR : Ev (fun k => (pilekeep1_ready.f k).bind fun r => Option.some r) true := Ev.bind ready_ev (Ev.now _)
  refine (Ev.bind e1 ?_).ex
  refine Holds_step n e hs 0 2 (by omega) rfl (by omega) _ (.inl rfl) ?_
  refine Holds_step n e hs 1 4 (by omega) rfl (by omega) _ (.inr ⟨2, by omega, by omega, rfl⟩) ?_
  refine Holds_step n e hs 2 6 (by omega) rfl (by omega) _ (.inr ⟨4, by omega, by omega, rfl⟩) ?_
  refine Ev.succ ?_
  simp only [pilekeep1_LocatorsHoldTheirSites.l0]
  exact Ev.neg (by decide) hR
end Go.EV.Pure
