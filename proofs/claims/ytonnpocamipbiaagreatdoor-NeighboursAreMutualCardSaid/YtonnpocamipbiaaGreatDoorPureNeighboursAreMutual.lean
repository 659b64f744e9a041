/- The plain law: the Lean functions answer true for every list. -/
import Derived.Test.YtonnpocamipbiaaGreatDoorXNeighboursAreMutual
import Derived.KernelRfl
set_option linter.unusedVariables false
set_option linter.unusedSimpArgs false
/-! Plain laws that all statements use: numbers that don't wrap, functions with fuel, loops over lists, the stream's draws. -/
namespace Go.EV.Pure
open Go Go.EV Go.RowKit
theorem wrap_id {e : Int} (h1 : -9223372036854775808 ≤ e) (h2 : e ≤ 9223372036854775807) : wrap64 e = e := by
  unfold wrap64
  omega
theorem tmod_pos {a n : Int} (h : 0 ≤ a) : a.tmod n = a % n := Int.tmod_eq_emod_of_nonneg h
theorem tdiv_pos {a n : Int} (h : 0 ≤ a) : a.tdiv n = a / n := Int.tdiv_eq_ediv_of_nonneg h
theorem mn_eq (a b : Int) : mn a b = if b < a then b else a := rfl
theorem rdE_get {α : Type} (E : Enc α) (l : List α) (i : Nat) (h : i < l.length) : rdE E l (i : Int) = l[i] := by
  simp [rdE, List.getD, List.getElem?_eq_getElem h]
theorem rd_mem (l : List Int) (i : Int) (h0 : 0 ≤ i) (h1 : i < l.length) : rd l i ∈ l := by
  have h : i.toNat < l.length := by omega
  have : rd l i = l[i.toNat] := by simp [rd, List.getD, List.getElem?_eq_getElem h]
  rw [this]
  exact List.getElem_mem h
theorem wrap_succ {i : Nat} (h : i ≤ 1000000000000000) : wrap64 ((i : Int) + 1) = ((i + 1 : Nat) : Int) := by rw [wrap_id (by omega) (by omega)]; omega

/-- From some fuel on the function answers v. -/
def Ev {α : Type} (f : Nat → Option α) (v : α) : Prop := ∃ K, ∀ k, K ≤ k → f k = some v
section
variable {α β : Type}
theorem Ev.now (v : α) : Ev (fun _ => some v) v := ⟨0, fun _ _ => rfl⟩
theorem Ev.of {f : Nat → Option α} {v : α} (h : ∀ k, f k = some v) : Ev f v := ⟨0, fun k _ => h k⟩
theorem Ev.from {f : Nat → Option α} {v : α} (n : Nat) (h : ∀ k, f (k + n) = some v) : Ev f v := ⟨n, fun k hk => by
  obtain ⟨m, rfl⟩ : ∃ m, k = m + n := ⟨k - n, by omega⟩
  exact h m⟩
theorem Ev.bind {f : Nat → Option α} {a : α} {g : Nat → α → Option β} {v : β} (h : Ev f a) (h2 : Ev (fun k => g k a) v) : Ev (fun k => (f k).bind (g k)) v := by
  obtain ⟨K, h⟩ := h
  obtain ⟨K2, h2⟩ := h2
  exact ⟨max K K2, fun k hk => by show (f k).bind (g k) = some v; rw [h k (by omega)]; exact h2 k (by omega)⟩
theorem Ev.step {g f : Nat → Option α} {v : α} (h : ∀ k, g (k + 1) = f k) (h2 : Ev f v) : Ev g v := by
  obtain ⟨K, h2⟩ := h2
  exact ⟨K + 1, fun k hk => by
    obtain ⟨m, rfl⟩ : ∃ m, k = m + 1 := ⟨k - 1, by omega⟩
    rw [h m]; exact h2 m (by omega)⟩
theorem Ev.succ {g : Nat → Option α} {v : α} (h : Ev (fun k => g (k + 1)) v) : Ev g v := Ev.step (fun _ => rfl) h
theorem Ev.congr {f g : Nat → Option α} {v : α} (h : ∀ k, f k = g k) (h2 : Ev g v) : Ev f v := by
  obtain ⟨K, h2⟩ := h2
  exact ⟨K, fun k hk => (h k).trans (h2 k hk)⟩
theorem Ev.ex {f : Nat → Option α} {v : α} (h : Ev f v) : ∃ k, f k = some v := let ⟨K, h⟩ := h; ⟨K, h K (Nat.le_refl _)⟩
theorem Ev.pos {p : Prop} [Decidable p] {f g : Nat → Option α} {v : α} (c : p) (h1 : Ev f v) : Ev (fun k => if p then f k else g k) v := by simp only [if_pos c]; exact h1
theorem Ev.neg {p : Prop} [Decidable p] {f g : Nat → Option α} {v : α} (c : ¬ p) (h1 : Ev g v) : Ev (fun k => if p then f k else g k) v := by simp only [if_neg c]; exact h1

/-- A loop over a list by its index: what holds of its state carries over each round, or the round is the last one. -/
theorem loop {σ ρ : Type} (l : List α) (F : Nat → Int → σ → Option ρ) (I : Nat → σ → Prop) (post : ρ → Prop)
    (hstep : ∀ (i : Nat) (s : σ), i < l.length → I i s → (∃ s', I (i + 1) s' ∧ ∀ v, Ev (fun k => F k ((i + 1 : Nat) : Int) s') v → Ev (fun k => F k (i : Int) s) v) ∨ ∃ v, post v ∧ Ev (fun k => F k (i : Int) s) v)
    (hend : ∀ s, I l.length s → ∃ v, post v ∧ Ev (fun k => F k (l.length : Int) s) v) :
    ∀ (i : Nat) (s : σ), i ≤ l.length → I i s → ∃ v, post v ∧ Ev (fun k => F k (i : Int) s) v := by
  intro i
  generalize hd : l.length - i = d
  induction d generalizing i with
  | zero =>
    intro s hi hI
    obtain rfl : i = l.length := by omega
    exact hend s hI
  | succ d ih =>
    intro s hi hI
    rcases hstep i s (by omega) hI with ⟨s', h1, h2⟩ | h
    · obtain ⟨v, h3, h4⟩ := ih (i + 1) (by omega) s' (by omega) h1
      exact ⟨v, h3, h2 v h4⟩
    · exact h
end
end Go.EV.Pure
namespace Go.EV.Pure
open Go Go.EV Go.RowKit
theorem Below_j (x : Int) : Ev (fun k => pilemake_Below.j6 k x) x := Ev.from 1 fun k => rfl
theorem Below_spec (x n : Int) (hn : n ≤ 9223372036854775807) : ∃ r, Ev (fun k => pilemake_Below.f k x n) r ∧ 0 ≤ r ∧ (1 ≤ n → r < n) ∧ (n < 1 → r = 0) := by
  unfold pilemake_Below.f
  by_cases h : n < 1
  · simp only [if_pos h]
    exact ⟨0, Ev.now _, by omega, by omega, fun _ => rfl⟩
  · simp only [if_neg h, if_neg (show ¬ n = 0 by omega)]
    have hm := Int.natAbs_tmod x n
    have hm2 := Nat.mod_lt x.natAbs (show n.natAbs > 0 by omega)
    have h1 : x.tmod n < n := by omega
    have h2 : -n < x.tmod n := by omega
    by_cases h3 : x.tmod n < 0
    · simp only [if_pos h3]
      refine ⟨_, Below_j _, ?_, ?_, ?_⟩ <;> rw [wrap_id (by omega) (by omega)] <;> omega
    · simp only [if_neg h3]
      exact ⟨_, Below_j _, by omega, by omega, by omega⟩
theorem Next_spec (l : List Int) (s n : Int) (h0 : 0 ≤ s) (h1 : s ≤ 4611686018427387904) (hn : n ≤ 9223372036854775807) (hl : l.length ≤ 140737488351232) :
    ∃ r, Ev (fun k => pilemake_Stream_Next.f k l s n) (r, l, s + 1) ∧ 0 ≤ r ∧ (1 ≤ n → r < n) := by
  unfold pilemake_Stream_Next.f
  have hs : wrap64 (s + 1) = s + 1 := wrap_id (by omega) (by omega)
  have hs2 : wrap64 (s + 1 - 1) = s := by rw [wrap_id (by omega) (by omega)]; omega
  simp only [hs, hs2]
  by_cases h : (l.length : Int) = 0
  · simp only [if_pos h]
    obtain ⟨r, hr, r0, r1, _⟩ := Below_spec (wrap64 ((s + 1) * 7919)) n hn
    exact ⟨r, Ev.bind hr (Ev.now _), r0, r1⟩
  · have e : Int.tmod s (l.length : Int) = s % (l.length : Int) := Int.tmod_eq_emod_of_nonneg h0
    have m0 : 0 ≤ s % (l.length : Int) := Int.emod_nonneg _ h
    have m1 : s % (l.length : Int) < (l.length : Int) := Int.emod_lt_of_pos _ (by omega)
    simp only [if_neg h, e, if_pos m0, if_pos m1]
    obtain ⟨a, ha, _⟩ := Below_spec (rd l (s % (l.length : Int))) 1073741824 (by omega)
    obtain ⟨r, hr, r0, r1, _⟩ := Below_spec (wrap64 (a + wrap64 (wrap64 (Int.tdiv s (l.length : Int)) * wrap64 (7919 + s % (l.length : Int))))) n hn
    exact ⟨r, Ev.bind ha (Ev.bind hr (Ev.now _)), r0, r1⟩
theorem Pick_spec (l : List Int) (s : Int) (m : List Int) (h0 : 0 ≤ s) (h1 : s ≤ 4611686018427387904) (hl : l.length ≤ 140737488351232) (hm : 1 ≤ m.length) (hm2 : m.length ≤ 1000) :
    ∃ r, Ev (fun k => pilemake_Stream_Pick.f k l s m) (r, l, s + 1) ∧ r ∈ m := by
  obtain ⟨r, hr, r0, r1⟩ := Next_spec l s (m.length : Int) h0 h1 (by omega) hl
  have r2 := r1 (by omega)
  exact ⟨rd m r, Ev.bind hr (Ev.pos r0 (Ev.pos r2 (Ev.now _))), rd_mem m r r0 r2⟩
theorem Range_spec (l : List Int) (s a b : Int) (h0 : 0 ≤ s) (h1 : s ≤ 4611686018427387904) (ha : -1099511627776 ≤ a) (hb : b ≤ 1099511627776) (hab : a ≤ b) (hl : l.length ≤ 140737488351232) :
    ∃ r, Ev (fun k => pilemake_Stream_Range.f k l s a b) (r, l, s + 1) ∧ a ≤ r ∧ r ≤ b := by
  obtain ⟨r, hr, r0, r1⟩ := Next_spec l s (b - a + 1) h0 h1 (by omega) hl
  have r2 := r1 (by omega)
  refine ⟨a + r, ?_, by omega, by omega⟩
  unfold pilemake_Stream_Range.f
  rw [wrap_id (e := b - a) (by omega) (by omega), wrap_id (e := b - a + 1) (by omega) (by omega)]
  refine Ev.neg (by omega) (Ev.bind hr ?_)
  simp only [wrap_id (e := a + r) (by omega) (by omega)]
  exact Ev.now _
theorem Flip_spec (l : List Int) (s n : Int) (h0 : 0 ≤ s) (h1 : s ≤ 4611686018427387904) (hn : n ≤ 9223372036854775807) (hl : l.length ≤ 140737488351232) :
    ∃ b, Ev (fun k => pilemake_Stream_Flip.f k l s n) (b, l, s + 1) := by
  obtain ⟨r, hr, _⟩ := Next_spec l s n h0 h1 hn hl
  exact ⟨decide (r = 0), Ev.bind hr (Ev.now _)⟩
end Go.EV.Pure
namespace Go.EV.Pure
open Go Go.EV Go.RowKit
set_option linter.unusedSimpArgs false
/-! Sites, the cosine, how far sites are from each other. -/
theorem tmod_neg {a n : Int} (h : a ≤ 0) : a.tmod n = -((-a) % n) := by
  have h1 := Int.neg_tmod (-a) n
  rw [Int.neg_neg] at h1
  rw [h1, Int.tmod_eq_emod_of_nonneg (by omega)]
theorem in_eq (a lo hi : Int) : pileref1_in.f a lo hi = some (decide (lo ≤ a ∧ a ≤ hi)) := by
  unfold pileref1_in.f
  split <;> simp [*]
theorem SiteFault_eq (n e : Int) : pileref1_SiteFault.f n e = some (if (-324000 ≤ n ∧ n ≤ 324000) ∧ -648000 ≤ e ∧ e ≤ 647999 then 0 else 1) := by
  unfold pileref1_SiteFault.f
  rw [in_eq, in_eq]
  simp only [Option.bind_some, decide_eq_true_eq]
  by_cases h : -324000 ≤ n ∧ n ≤ 324000
  · rw [if_pos h]
    by_cases h2 : -648000 ≤ e ∧ e ≤ 647999
    · rw [if_pos h2, if_pos ⟨h, h2⟩]
    · rw [if_neg h2, if_neg (by omega)]
  · rw [if_neg h, if_neg (by omega)]
theorem cosine_mod (a : Int) : Int.tmod (wrap64 (Int.tmod a 1296000 + 1296000)) 1296000 = a % 1296000 := by
  by_cases h : 0 ≤ a
  · rw [tmod_pos h, wrap_id (by omega) (by omega), tmod_pos (by omega)]; omega
  · rw [tmod_neg (a := a) (by omega), wrap_id (by omega) (by omega), tmod_pos (by omega)]; omega
/-- An angle to the east, taken around the world. -/
def aroundV (a : Int) : Int := (a + 648000) % 1296000 - 648000
theorem aroundV_bd (a : Int) : -648000 ≤ aroundV a ∧ aroundV a ≤ 647999 := by unfold aroundV; omega
theorem around_eq (a : Int) (h0 : -1099511627776 ≤ a) (h1 : a ≤ 1099511627776) : place_around.f a = some (aroundV a) := by
  unfold place_around.f aroundV
  rw [wrap_id (e := a + 648000) (by omega) (by omega)]
  have h : Int.tmod (wrap64 (Int.tmod (a + 648000) 1296000 + 1296000)) 1296000 = (a + 648000) % 1296000 := cosine_mod _
  rw [h, wrap_id (by omega) (by omega)]
/-- A site that may be. -/
def Right (n e : Int) : Prop := (-324000 ≤ n ∧ n ≤ 324000) ∧ -648000 ≤ e ∧ e ≤ 647999
theorem mul_bd (a b A B : Int) (hA : 0 ≤ A) (_hB : 0 ≤ B) (ha : -A ≤ a ∧ a ≤ A) (hb : -B ≤ b ∧ b ≤ B) : -(A * B) ≤ a * b ∧ a * b ≤ A * B := by
  have h1 : (a.natAbs : Int) ≤ A := by omega
  have h2 : (b.natAbs : Int) ≤ B := by omega
  have h3 : (a.natAbs : Int) * (b.natAbs : Int) ≤ A * B := Int.mul_le_mul h1 h2 (by omega) hA
  have h4 : ((a * b).natAbs : Int) = (a.natAbs : Int) * (b.natAbs : Int) := by rw [Int.natAbs_mul]; push_cast; rfl
  omega
end Go.EV.Pure
namespace Go.EV.Pure
open Go Go.EV Go.RowKit
/-! Sites that the stream makes. -/
theorem SiteOf_j (n e : Int) (l : List Int) (s : Int) : Ev (fun k => pilemake_Stream_SiteOf.j4 k n e l s) (n, e, l, s) := Ev.from 1 fun k => rfl
theorem Odd_spec (l : List Int) (s a b : Int) (h0 : 0 ≤ s) (h1 : s ≤ 4611686018427387000) (ha : -1099511627776 ≤ a) (hb : b ≤ 1099511627776) (hab : a ≤ b) (hl : l.length ≤ 140737488351232) :
    ∃ r s', Ev (fun k => pilemake_Stream_Odd.f k l s a b) (r, l, s') ∧ s ≤ s' ∧ s' ≤ s + 2 := by
  obtain ⟨f, e1⟩ := Flip_spec l s 12 h0 (by omega) (by omega) hl
  cases f with
  | true =>
    obtain ⟨r, e2, _⟩ := Pick_spec l (s + 1) [wrap64 (a - 1), wrap64 (b + 1), a, b, (-1099511627776), 1099511627776] (by omega) (by omega) hl (by simp) (by simp)
    exact ⟨r, s + 1 + 1, Ev.bind e1 (Ev.pos rfl (Ev.bind e2 (Ev.now _))), by omega, by omega⟩
  | false =>
    obtain ⟨r, e2, _⟩ := Range_spec l (s + 1) a b (by omega) (by omega) ha hb hab hl
    exact ⟨r, s + 1 + 1, Ev.bind e1 (Ev.neg Bool.false_ne_true (Ev.bind e2 (Ev.now _))), by omega, by omega⟩
theorem SiteOf_spec (l : List Int) (s : Int) (h0 : 0 ≤ s) (h1 : s ≤ 4611686018427380000) (hl : l.length ≤ 140737488351232) :
    ∃ n e s', Ev (fun k => pilemake_Stream_SiteOf.f k l s) (n, e, l, s') ∧ s ≤ s' ∧ s' ≤ s + 20 := by
  obtain ⟨r1, e1, _⟩ := Range_spec l s (-324000) 324000 (by omega) (by omega) (by omega) (by omega) (by omega) hl
  obtain ⟨r2, e2, _⟩ := Pick_spec l (s + 1) [0, 172800, 174599, (-324000), 324000, r1] (by omega) (by omega) hl (by simp) (by simp)
  obtain ⟨r3, e3, _⟩ := Range_spec l (s + 1 + 1) (-648000) 647999 (by omega) (by omega) (by omega) (by omega) (by omega) hl
  obtain ⟨r4, e4, _⟩ := Pick_spec l (s + 1 + 1 + 1) [0, 36000, (-648000), 647999, r3] (by omega) (by omega) hl (by simp) (by simp)
  obtain ⟨f, e5⟩ := Flip_spec l (s + 1 + 1 + 1 + 1) 20 (by omega) (by omega) (by omega) hl
  cases f with
  | true =>
    obtain ⟨r6, s6, e6, b6, c6⟩ := Odd_spec l (s + 1 + 1 + 1 + 1 + 1) (-324000) 324000 (by omega) (by omega) (by omega) (by omega) (by omega) hl
    obtain ⟨r7, s7, e7, b7, c7⟩ := Odd_spec l s6 (-648000) 647999 (by omega) (by omega) (by omega) (by omega) (by omega) hl
    exact ⟨r6, r7, s7, Ev.bind e1 (Ev.bind e2 (Ev.bind e3 (Ev.bind e4 (Ev.bind e5 (Ev.pos rfl (Ev.bind e6 (Ev.bind e7 (SiteOf_j _ _ _ _)))))))), by omega, by omega⟩
  | false =>
    exact ⟨r2, r4, s + 1 + 1 + 1 + 1 + 1, Ev.bind e1 (Ev.bind e2 (Ev.bind e3 (Ev.bind e4 (Ev.bind e5 (Ev.neg Bool.false_ne_true (SiteOf_j _ _ _ _)))))), by omega, by omega⟩
theorem RightSite_loop (l : List Int) (hl : l.length ≤ 140737488351232) (d : Nat) : ∀ (i s : Int), 0 ≤ i → i + d = 6 → 0 ≤ s → s + 20 * d ≤ 4611686018427370000 →
    ∃ n e s', Ev (fun k => pilemake_Stream_RightSite.l0 k i l s) (n, e, l, s') ∧ Right n e ∧ s ≤ s' ∧ s' ≤ s + 20 * d := by
  induction d with
  | zero =>
    intro i s h0 hi hs _
    refine ⟨0, 0, s, Ev.step (f := fun _ => some _) (fun k => ?_) (Ev.now _), by unfold Right; omega, by omega, by omega⟩
    simp only [pilemake_Stream_RightSite.l0]
    rw [if_neg (by omega)]
  | succ d ih =>
    intro i s h0 hi hs h1
    obtain ⟨n, e, s', e1, b1, c1⟩ := SiteOf_spec l s hs (by omega) hl
    by_cases c : Right n e
    · refine ⟨n, e, s', Ev.succ ?_, c, by omega, by omega⟩
      simp only [pilemake_Stream_RightSite.l0]
      refine Ev.pos (by omega) (Ev.bind e1 ?_)
      simp only [SiteFault_eq, Option.bind_some]
      unfold Right at c
      exact Ev.pos (if_pos c) (Ev.now _)
    · obtain ⟨n2, e2, s2, e3, b2, c2, c3⟩ := ih (i + 1) s' (by omega) (by omega) (by omega) (by omega)
      refine ⟨n2, e2, s2, Ev.succ ?_, b2, by omega, by omega⟩
      simp only [pilemake_Stream_RightSite.l0, wrap_id (e := i + 1) (by omega) (by omega)]
      refine Ev.pos (by omega) (Ev.bind e1 ?_)
      simp only [SiteFault_eq, Option.bind_some]
      unfold Right at c
      exact Ev.neg (by rw [if_neg c]; omega) e3
theorem RightSite_spec (l : List Int) (s : Int) (h0 : 0 ≤ s) (h1 : s ≤ 4611686018427360000) (hl : l.length ≤ 140737488351232) :
    ∃ n e s', Ev (fun k => pilemake_Stream_RightSite.f k l s) (n, e, l, s') ∧ Right n e ∧ s ≤ s' ∧ s' ≤ s + 120 := by
  obtain ⟨n, e, s', a, b, c, d⟩ := RightSite_loop l hl 6 0 s (by omega) (by omega) h0 (by omega)
  exact ⟨n, e, s', a, b, c, by omega⟩
end Go.EV.Pure
namespace Go.EV.Pure
open Go Go.EV Go.RowKit
set_option linter.unusedSimpArgs false
/-! Locators: of sites, their areas and middles. -/
theorem bt_bytes (l : List Int) (i : Nat) (h : i < l.length) (h0 : 0 ≤ l[i] ∧ l[i] < 256) : bt (bytesE l) (i : Int) = l[i] := by
  unfold bt bytesE
  have hs : (Int.toNat (i : Int)) < (strOfNums l).size := by rw [strOfNums_size]; simpa using h
  rw [dif_pos hs]
  have : (strOfNums l)[Int.toNat (i : Int)]'hs = UInt8.ofNat (l[i]).toNat := by
    show (strOfNums l).data[Int.toNat (i : Int)] = _
    simp [strOfNums]
  rw [this, UInt8.toNat_ofNat']
  omega
theorem bytes_size (l : List Int) : (bytesE l).size = l.length := strOfNums_size l
def lvF (i : Nat) : Int := if i < 2 then 97 else if i < 4 then 48 else 97
def lvM (i : Nat) : Int := if i < 2 then 18 else if i < 4 then 10 else 24
def lvW (i : Nat) : Int := if i < 2 then 72000 else if i < 4 then 7200 else 300
def lvH (i : Nat) : Int := if i < 2 then 36000 else if i < 4 then 3600 else 150
def lvL : List (Int × Int × Int × Int) := [(18, 97, 72000, 36000), (10, 48, 7200, 3600), (24, 97, 300, 150)]
theorem levels_eq : place_levels.f = some lvL := rfl
theorem six (i : Nat) (h : i < 6) : i = 0 ∨ i = 1 ∨ i = 2 ∨ i = 3 ∨ i = 4 ∨ i = 5 := by omega
theorem lv_rd (i : Nat) (h : i < 6) : wrap64 (Int.tdiv (i : Int) 2) = ((i / 2 : Nat) : Int) ∧ rdE e_IIII lvL ((i / 2 : Nat) : Int) = (lvM i, lvF i, lvW i, lvH i) := by
  rcases six i h with rfl | rfl | rfl | rfl | rfl | rfl <;> exact ⟨by rw [tdiv_pos (by omega), wrap_id (by omega) (by omega)]; rfl, rfl⟩
/-- The number that a byte of a locator stands for. -/
def lvV (s : ByteArray) (i : Nat) : Int := bt s (i : Int) - lvF i
def locOK (s : ByteArray) : Prop := (s.size = 2 ∨ s.size = 4 ∨ s.size = 6) ∧ ∀ i < s.size, 0 ≤ lvV s i ∧ lvV s i < lvM i
theorem lvM_bd (i : Nat) : 0 < lvM i ∧ lvM i < 200 := by unfold lvM; split <;> (try split) <;> omega
theorem IsLocator_loop (s : ByteArray) (h : locOK s) (d : Nat) : ∀ i : Nat, i + d = s.size → Ev (fun k => place_IsLocator.l0 k s (i : Int)) true := by
  have hs := h.1
  induction d with
  | zero =>
    intro i hi
    refine Ev.step (f := fun _ => some _) (fun k => ?_) (Ev.now _)
    simp only [place_IsLocator.l0]
    rw [if_neg (by omega)]
  | succ d ih =>
    intro i hi
    obtain ⟨q1, q2⟩ := lv_rd i (by omega)
    obtain ⟨v0, v1⟩ := h.2 i (by omega)
    have hM := lvM_bd i
    have hlen : (lvL.length : Int) = 3 := rfl
    unfold lvV at v0 v1
    have e0 : (bt s (i : Int) - lvF i) % 256 = bt s (i : Int) - lvF i := by omega
    refine Ev.step (fun k => ?_) (ih (i + 1) (by omega))
    simp only [place_IsLocator.l0, levels_eq, Option.bind_some, q1, q2, hlen, e0]
    rw [if_pos (by omega), if_pos (by omega), if_pos (by omega), if_pos (by omega), if_pos (by omega), if_neg (by omega), if_pos (by omega), if_pos (by omega), wrap_id (e := bt s (i : Int) - lvF i) (by omega) (by omega), if_neg (by omega), wrap_succ (by omega)]
theorem IsLocator_ev (s : ByteArray) (h : locOK s) : Ev (fun k => place_IsLocator.f k s) true := by
  have hl := IsLocator_loop s h s.size 0 (by omega)
  unfold place_IsLocator.f
  rcases h.1 with c | c | c
  · exact Ev.pos (by omega) hl
  · exact Ev.neg (by omega) (Ev.pos (by omega) hl)
  · exact Ev.neg (by omega) (Ev.neg (by omega) (Ev.pos (by omega) hl))
theorem area_step (s : ByteArray) (i : Nat) (h6 : i + 1 < 6) (he : i % 2 = 0) (hi : i + 1 < s.size) (v0 : 0 ≤ lvV s i ∧ lvV s i < 200) (v1 : 0 ≤ lvV s (i + 1) ∧ lvV s (i + 1) < 200) (n e : Int) (hn : -100000000 ≤ n ∧ n ≤ 100000000) (hE : -100000000 ≤ e ∧ e ≤ 100000000) (a b c d : Int) {r : Int × Int × Int × Int}
    (h : Ev (fun k => place_area.l0 k s ((i + 2 : Nat) : Int) (n + lvV s (i + 1) * lvH i) (e + lvV s i * lvW i) (lvM i) (lvF i) (lvW i) (lvH i)) r) : Ev (fun k => place_area.l0 k s (i : Int) n e a b c d) r := by
  obtain ⟨q1, q2⟩ := lv_rd i (by omega)
  have hlen : (lvL.length : Int) = 3 := rfl
  have hF : lvF (i + 1) = lvF i := by unfold lvF; rcases six i (by omega) with rfl | rfl | rfl | rfl | rfl | rfl <;> first | rfl | omega
  have hW : 0 ≤ lvW i ∧ lvW i ≤ 72000 := by unfold lvW; split <;> (try split) <;> omega
  have hH : 0 ≤ lvH i ∧ lvH i ≤ 36000 := by unfold lvH; split <;> (try split) <;> omega
  have w1 : wrap64 ((i : Int) + 1) = ((i + 1 : Nat) : Int) := wrap_succ (by omega)
  have w2 : wrap64 ((i : Int) + 2) = ((i + 2 : Nat) : Int) := by rw [wrap_id (by omega) (by omega)]; rfl
  have e0 : wrap64 ((bt s (i : Int) - lvF i) % 256) = lvV s i := by rw [wrap_id (by omega) (by omega)]; have hv := v0; unfold lvV at hv ⊢; omega
  have e1 : wrap64 ((bt s ((i + 1 : Nat) : Int) - lvF i) % 256) = lvV s (i + 1) := by rw [wrap_id (by omega) (by omega)]; have hv := v1; unfold lvV at hv ⊢; rw [hF] at hv ⊢; omega
  have m0 := mul_bd (lvV s i) (lvW i) 200 72000 (by omega) (by omega) (by omega) (by omega)
  have m1 := mul_bd (lvV s (i + 1)) (lvH i) 200 36000 (by omega) (by omega) (by omega) (by omega)
  refine Ev.step (fun k => ?_) h
  simp only [place_area.l0, levels_eq, Option.bind_some, q1, q2, hlen, w1, w2, e0, e1]
  rw [if_pos (by omega), if_pos (by omega), if_pos (by omega), if_pos (by omega), if_pos (by omega), if_pos (by omega), if_pos (by omega)]
  rw [wrap_id (e := lvV s i * lvW i) (by omega) (by omega), wrap_id (e := lvV s (i + 1) * lvH i) (by omega) (by omega), wrap_id (e := n + lvV s (i + 1) * lvH i) (by omega) (by omega), wrap_id (e := e + lvV s i * lvW i) (by omega) (by omega)]
theorem area_end (s : ByteArray) (i : Nat) (hi : s.size = i + 2) (h6 : i + 1 < 6) (n e : Int) (hn : -100000000 ≤ n ∧ n ≤ 100000000) (hE : -100000000 ≤ e ∧ e ≤ 100000000) :
    Ev (fun k => place_area.l0 k s ((i + 2 : Nat) : Int) n e (lvM i) (lvF i) (lvW i) (lvH i)) (n, e, n + lvH i, e + lvW i) := by
  have hW : 0 ≤ lvW i ∧ lvW i ≤ 72000 ∧ lvW i = 2 * lvH i := by unfold lvW lvH; split <;> (try split) <;> omega
  refine Ev.step (f := fun _ => some _) (fun k => ?_) (Ev.now _)
  simp only [place_area.l0]
  rw [if_neg (by omega), wrap_id (by omega) (by omega), wrap_id (by omega) (by omega)]
/-- The digits of a site, from the south-west. -/
def dig (N E : Int) : List Int := [97 + E / 72000, 97 + N / 36000, 48 + E % 72000 / 7200, 48 + N % 36000 / 3600, 97 + E % 72000 % 7200 / 300, 97 + N % 36000 % 3600 / 150]
def loc (N E : Int) (m : Nat) : ByteArray := bytesE ((dig N E).take m)
def inW (N E : Int) : Prop := (0 ≤ N ∧ N ≤ 647999) ∧ 0 ≤ E ∧ E ≤ 1295999
theorem dig_bd (N E : Int) (h : inW N E) : ∀ i : Nat, (hi : i < 6) → 0 ≤ (dig N E)[i]'(by simpa [dig] using hi) - lvF i ∧ (dig N E)[i]'(by simpa [dig] using hi) - lvF i < lvM i := by
  intro i hi
  unfold inW at h
  rcases six i hi with rfl | rfl | rfl | rfl | rfl | rfl <;> simp [dig, lvF, lvM] <;> omega
theorem loc_size (N E : Int) (m : Nat) (hm : m ≤ 6) : (loc N E m).size = m := by
  unfold loc
  rw [bytes_size]
  simp [dig]
  omega
theorem loc_V (N E : Int) (m : Nat) (h : inW N E) (hm : m ≤ 6) (i : Nat) (hi : i < m) : lvV (loc N E m) i = (dig N E)[i]'(by simp [dig]; omega) - lvF i := by
  have hb := dig_bd N E h i (by omega)
  have hl : i < ((dig N E).take m).length := by simp [dig]; omega
  have hF : 0 ≤ lvF i ∧ lvF i ≤ 97 := by unfold lvF; split <;> (try split) <;> omega
  have hM := lvM_bd i
  have hM2 : lvM i ≤ 24 := by unfold lvM; split <;> (try split) <;> omega
  have e : ((dig N E).take m)[i] = (dig N E)[i]'(by simp [dig]; omega) := by simp
  unfold lvV loc
  rw [bt_bytes _ i hl (by rw [e]; omega), e]
theorem loc_ok (N E : Int) (m : Nat) (h : inW N E) (hm : m = 2 ∨ m = 4 ∨ m = 6) : locOK (loc N E m) := by
  have hs := loc_size N E m (by omega)
  refine ⟨by omega, fun i hi => ?_⟩
  rw [hs] at hi
  rw [loc_V N E m h (by omega) i hi]
  exact dig_bd N E h i (by omega)
/-- How high areas are. -/
def hOf (m : Nat) : Int := if m = 2 then 36000 else if m = 4 then 3600 else 150
theorem area_ev (N E : Int) (m : Nat) (h : inW N E) (hm : m = 2 ∨ m = 4 ∨ m = 6) :
    Ev (fun k => place_area.f k (loc N E m)) (N - N % hOf m - 324000, E - E % (2 * hOf m) - 648000, N - N % hOf m - 324000 + hOf m, E - E % (2 * hOf m) - 648000 + 2 * hOf m) := by
  have hs := loc_size N E m (by omega)
  have hV := fun i hi => loc_V N E m h (by omega) i hi
  have hB := dig_bd N E h
  have H0 : lvH 0 = 36000 := rfl
  have H2 : lvH 2 = 3600 := rfl
  have H4 : lvH 4 = 150 := rfl
  have W0 : lvW 0 = 72000 := rfl
  have W2 : lvW 2 = 7200 := rfl
  have W4 : lvW 4 = 300 := rfl
  have k0 : lvV (loc N E m) 0 = E / 72000 := by rw [hV 0 (by omega)]; simp [dig, lvF] <;> omega
  have k1 : lvV (loc N E m) (0 + 1) = N / 36000 := by rw [hV 1 (by omega)]; simp [dig, lvF] <;> omega
  unfold inW at h
  unfold place_area.f
  generalize loc N E m = s at *
  rcases hm with rfl | rfl | rfl
  · refine area_step s 0 (by omega) rfl (by omega) (by omega) (by omega) _ _ (by omega) (by omega) _ _ _ _ ?_
    have := area_end s 0 hs (by omega) (-324000 + lvV s (0 + 1) * lvH 0) (-648000 + lvV s 0 * lvW 0) (by rw [k1, H0]; omega) (by rw [k0, W0]; omega)
    have e : (-324000 + lvV s (0 + 1) * lvH 0, -648000 + lvV s 0 * lvW 0, -324000 + lvV s (0 + 1) * lvH 0 + lvH 0, -648000 + lvV s 0 * lvW 0 + lvW 0) = (N - N % hOf 2 - 324000, E - E % (2 * hOf 2) - 648000, N - N % hOf 2 - 324000 + hOf 2, E - E % (2 * hOf 2) - 648000 + 2 * hOf 2) := by
      rw [k0, k1, H0, W0]
      have : hOf 2 = 36000 := rfl
      rw [this]
      refine Prod.ext (by simp only; omega) (Prod.ext (by simp only; omega) (Prod.ext (by simp only; omega) (by simp only; omega)))
    rw [← e]
    exact this
  · have k2 : lvV s 2 = E % 72000 / 7200 := by rw [hV 2 (by omega)]; simp [dig, lvF] <;> omega
    have k3 : lvV s (2 + 1) = N % 36000 / 3600 := by rw [hV 3 (by omega)]; simp [dig, lvF] <;> omega
    refine area_step s 0 (by omega) rfl (by omega) (by omega) (by omega) _ _ (by omega) (by omega) _ _ _ _ ?_
    refine area_step s 2 (by omega) rfl (by omega) (by omega) (by omega) _ _ (by rw [k1, H0]; omega) (by rw [k0, W0]; omega) _ _ _ _ ?_
    have := area_end s 2 hs (by omega) (-324000 + lvV s (0 + 1) * lvH 0 + lvV s (2 + 1) * lvH 2) (-648000 + lvV s 0 * lvW 0 + lvV s 2 * lvW 2) (by rw [k1, k3, H0, H2]; omega) (by rw [k0, k2, W0, W2]; omega)
    have e : (-324000 + lvV s (0 + 1) * lvH 0 + lvV s (2 + 1) * lvH 2, -648000 + lvV s 0 * lvW 0 + lvV s 2 * lvW 2, -324000 + lvV s (0 + 1) * lvH 0 + lvV s (2 + 1) * lvH 2 + lvH 2, -648000 + lvV s 0 * lvW 0 + lvV s 2 * lvW 2 + lvW 2) = (N - N % hOf 4 - 324000, E - E % (2 * hOf 4) - 648000, N - N % hOf 4 - 324000 + hOf 4, E - E % (2 * hOf 4) - 648000 + 2 * hOf 4) := by
      rw [k0, k1, k2, k3, H0, W0, H2, W2]
      have : hOf 4 = 3600 := rfl
      rw [this]
      refine Prod.ext (by simp only; omega) (Prod.ext (by simp only; omega) (Prod.ext (by simp only; omega) (by simp only; omega)))
    rw [← e]
    exact this
  · have k2 : lvV s 2 = E % 72000 / 7200 := by rw [hV 2 (by omega)]; simp [dig, lvF] <;> omega
    have k3 : lvV s (2 + 1) = N % 36000 / 3600 := by rw [hV 3 (by omega)]; simp [dig, lvF] <;> omega
    have k4 : lvV s 4 = E % 72000 % 7200 / 300 := by rw [hV 4 (by omega)]; simp [dig, lvF] <;> omega
    have k5 : lvV s (4 + 1) = N % 36000 % 3600 / 150 := by rw [hV 5 (by omega)]; simp [dig, lvF] <;> omega
    refine area_step s 0 (by omega) rfl (by omega) (by omega) (by omega) _ _ (by omega) (by omega) _ _ _ _ ?_
    refine area_step s 2 (by omega) rfl (by omega) (by omega) (by omega) _ _ (by rw [k1, H0]; omega) (by rw [k0, W0]; omega) _ _ _ _ ?_
    refine area_step s 4 (by omega) rfl (by omega) (by omega) (by omega) _ _ (by rw [k1, k3, H0, H2]; omega) (by rw [k0, k2, W0, W2]; omega) _ _ _ _ ?_
    have := area_end s 4 hs (by omega) (-324000 + lvV s (0 + 1) * lvH 0 + lvV s (2 + 1) * lvH 2 + lvV s (4 + 1) * lvH 4) (-648000 + lvV s 0 * lvW 0 + lvV s 2 * lvW 2 + lvV s 4 * lvW 4) (by rw [k1, k3, k5, H0, H2, H4]; omega) (by rw [k0, k2, k4, W0, W2, W4]; omega)
    have e : (-324000 + lvV s (0 + 1) * lvH 0 + lvV s (2 + 1) * lvH 2 + lvV s (4 + 1) * lvH 4, -648000 + lvV s 0 * lvW 0 + lvV s 2 * lvW 2 + lvV s 4 * lvW 4, -324000 + lvV s (0 + 1) * lvH 0 + lvV s (2 + 1) * lvH 2 + lvV s (4 + 1) * lvH 4 + lvH 4, -648000 + lvV s 0 * lvW 0 + lvV s 2 * lvW 2 + lvV s 4 * lvW 4 + lvW 4) = (N - N % hOf 6 - 324000, E - E % (2 * hOf 6) - 648000, N - N % hOf 6 - 324000 + hOf 6, E - E % (2 * hOf 6) - 648000 + 2 * hOf 6) := by
      rw [k0, k1, k2, k3, k4, k5, H0, W0, H2, W2, H4, W4]
      have : hOf 6 = 150 := rfl
      rw [this]
      refine Prod.ext (by simp only; omega) (Prod.ext (by simp only; omega) (Prod.ext (by simp only; omega) (by simp only; omega)))
    rw [← e]
    exact this
end Go.EV.Pure
namespace Go.EV.Pure
open Go Go.EV Go.RowKit
set_option linter.unusedSimpArgs false
theorem locator_step (q j : Nat) (hq : q ≤ 3) (hj : j < q) (x5 x6 : Int) (h5 : 0 ≤ x5 ∧ x5 / lvW (2 * j) < lvM (2 * j)) (h6 : 0 ≤ x6 ∧ x6 / lvH (2 * j) < lvM (2 * j)) (o : List Int) (ho : o.length ≤ 100) {v : ByteArray}
    (h : Ev (fun k => place_locator.l0 k (x5 % lvW (2 * j)) (x6 % lvH (2 * j)) (lvL.take q) (q : Int) ((j + 1 : Nat) : Int) (o ++ [lvF (2 * j) + x5 / lvW (2 * j), lvF (2 * j) + x6 / lvH (2 * j)])) v) :
    Ev (fun k => place_locator.l0 k x5 x6 (lvL.take q) (q : Int) (j : Int) o) v := by
  have hlen : ((lvL.take q).length : Int) = q := by simp [lvL]; omega
  have hr : rdE e_IIII (lvL.take q) (j : Int) = (lvM (2 * j), lvF (2 * j), lvW (2 * j), lvH (2 * j)) := by
    rw [rdE_get e_IIII _ j (by omega), List.getElem_take]
    rcases (by omega : j = 0 ∨ j = 1 ∨ j = 2) with rfl | rfl | rfl <;> rfl
  have hW : 0 < lvW (2 * j) ∧ 0 < lvH (2 * j) := by constructor <;> (first | unfold lvW | unfold lvH) <;> split <;> (try split) <;> omega
  have hF : 0 ≤ lvF (2 * j) ∧ lvF (2 * j) ≤ 97 := by unfold lvF; split <;> (try split) <;> omega
  have hM : lvM (2 * j) ≤ 24 := by unfold lvM; split <;> (try split) <;> omega
  have n5 := Int.ediv_nonneg h5.1 (show 0 ≤ lvW (2 * j) by omega)
  have n6 := Int.ediv_nonneg h6.1 (show 0 ≤ lvH (2 * j) by omega)
  refine Ev.step (fun k => ?_) h
  simp only [place_locator.l0, hr, tdiv_pos h5.1, tdiv_pos h6.1, tmod_pos h5.1, tmod_pos h6.1]
  generalize x5 / lvW (2 * j) = a at *
  generalize x6 / lvH (2 * j) = b at *
  rw [if_pos (by omega), if_pos (by omega), if_pos (by omega), if_neg (by omega), if_neg (by omega), if_pos (by simp; omega), if_neg (by omega), if_neg (by omega), wrap_id (e := a) (by omega) (by omega), wrap_id (e := b) (by omega) (by omega), wrap_succ (by omega),
    show (lvF (2 * j) + a % 256) % 256 = lvF (2 * j) + a by omega, show (lvF (2 * j) + b % 256) % 256 = lvF (2 * j) + b by omega]
theorem locator_end (q : Nat) (hq : q ≤ 3) (x5 x6 : Int) (o : List Int) : Ev (fun k => place_locator.l0 k x5 x6 (lvL.take q) (q : Int) (q : Int) o) (bytesE o) := by
  refine Ev.step (f := fun _ => some _) (fun k => ?_) (Ev.now _)
  simp only [place_locator.l0]
  rw [if_neg (by omega)]
theorem locator_ev (n e : Int) (hs : Right n e) (m : Nat) (hm : m = 2 ∨ m = 4 ∨ m = 6) : Ev (fun k => place_locator.f k n e (m : Int)) (loc (mn (n + 324000) 647999) (e + 648000) m) := by
  unfold Right at hs
  unfold place_locator.f
  have hN : 0 ≤ mn (n + 324000) 647999 ∧ mn (n + 324000) 647999 ≤ 647999 := by rw [mn_eq]; split <;> omega
  have ht : wrap64 (Int.tdiv (m : Int) 2) = ((m / 2 : Nat) : Int) := by rw [tdiv_pos (by omega), wrap_id (by omega) (by omega)]; omega
  simp only [levels_eq, Option.bind_some, ht, Int.toNat_natCast, wrap_id (e := n + 324000) (by omega) (by omega), wrap_id (e := e + 648000) (by omega) (by omega)]
  have hl : (lvL.length : Int) = 3 := rfl
  have hlen : ∀ q : Nat, q ≤ 3 → ((lvL.take q).length : Int) = q := fun q hq => by simp [lvL]; omega
  generalize mn (n + 324000) 647999 = N at *
  generalize hE : e + 648000 = E at *
  refine Ev.pos (by omega) (Ev.pos (by omega) ?_)
  simp only [hlen (m / 2) (by omega)]
  have W0 : lvW (2 * 0) = 72000 := rfl
  have W1 : lvW (2 * 1) = 7200 := rfl
  have W2 : lvW (2 * 2) = 300 := rfl
  have H0 : lvH (2 * 0) = 36000 := rfl
  have H1 : lvH (2 * 1) = 3600 := rfl
  have H2 : lvH (2 * 2) = 150 := rfl
  have M0 : lvM (2 * 0) = 18 := rfl
  have M1 : lvM (2 * 1) = 10 := rfl
  have M2 : lvM (2 * 2) = 24 := rfl
  rcases hm with rfl | rfl | rfl
  · refine locator_step 1 0 (by omega) (by omega) E N ?_ ?_ [] (by simp) ?_
    · rw [W0, M0]; omega
    · rw [H0, M0]; omega
    exact locator_end 1 (by omega) _ _ _
  · refine locator_step 2 0 (by omega) (by omega) E N ?_ ?_ [] (by simp) ?_
    · rw [W0, M0]; omega
    · rw [H0, M0]; omega
    refine locator_step 2 1 (by omega) (by omega) _ _ ?_ ?_ _ (by simp) ?_
    · rw [W0, W1, M1]; omega
    · rw [H0, H1, M1]; omega
    exact locator_end 2 (by omega) _ _ _
  · refine locator_step 3 0 (by omega) (by omega) E N ?_ ?_ [] (by simp) ?_
    · rw [W0, M0]; omega
    · rw [H0, M0]; omega
    refine locator_step 3 1 (by omega) (by omega) _ _ ?_ ?_ _ (by simp) ?_
    · rw [W0, W1, M1]; omega
    · rw [H0, H1, M1]; omega
    refine locator_step 3 2 (by omega) (by omega) _ _ ?_ ?_ _ (by simp) ?_
    · rw [W0, W1, W2, M2]; omega
    · rw [H0, H1, H2, M2]; omega
    exact locator_end 3 (by omega) _ _ _
theorem hOf_bd (m : Nat) : 150 ≤ hOf m ∧ hOf m ≤ 36000 := by unfold hOf; split <;> (try split) <;> omega
end Go.EV.Pure
namespace Go.EV.Pure
open Go Go.EV Go.RowKit
set_option maxRecDepth 100000
theorem ready_ev : Ev (fun k => pilekeep1_ready.f k) true := Ev.from 300 fun k => (by kernel_rfl : pilekeep1_ready.f (k + 300) = some true)
end Go.EV.Pure
namespace Go.EV.Pure
open Go Go.EV Go.RowKit
set_option linter.unusedSimpArgs false
set_option maxRecDepth 100000
/-! Sites that are sorted: the same sites. -/
theorem swap_perm {α : Type} : ∀ (i : Nat) (o : List α) (h : i + 1 < o.length), ((o.set (i + 1) o[i]).set i o[i + 1]).Perm o
  | 0, x :: y :: r, _ => List.Perm.swap x y r
  | i + 1, x :: r, h => by
    have := swap_perm i r (by simpa using h)
    simpa using List.Perm.cons x this
theorem insIn (x8 : Int) (n : Nat) (hn : n ≤ 12) : ∀ (i : Nat) (o : List (Int × Int)), o.length = n → i < n → ∃ o' : List (Int × Int), o'.Perm o ∧ ∀ v, Ev (fun k => slices_insertionSortCmpFunc_api_Site_of_place_Beside_1.l0 k 0 (n : Int) (wrap64 (x8 + 1)) o') v → Ev (fun k => slices_insertionSortCmpFunc_api_Site_of_place_Beside_1.l1 k 0 (n : Int) x8 (i : Int) o) v
  | 0, o, ho, hi => ⟨o, List.Perm.refl _, fun v hv => Ev.succ (by
      simp only [slices_insertionSortCmpFunc_api_Site_of_place_Beside_1.l1]
      exact Ev.neg (by omega) hv)⟩
  | i + 1, o, ho, hi => by
    have r1 : rdE e_II o ((i + 1 : Nat) : Int) = o[i + 1] := rdE_get e_II o (i + 1) (by omega)
    have r0 : rdE e_II o (i : Int) = o[i] := rdE_get e_II o i (by omega)
    have w : wrap64 (((i + 1 : Nat) : Int) - 1) = (i : Int) := by rw [wrap_id (by omega) (by omega)]; omega
    have hs : ((o.set (i + 1) o[i]).set i o[i + 1]).length = n := by simp [ho]
    obtain ⟨o', hp, hstep⟩ := insIn x8 n hn i ((o.set (i + 1) o[i]).set i o[i + 1]) hs (by omega)
    have hc : ∃ c, place_Beside_1.f o[i + 1].1 o[i + 1].2 o[i].1 o[i].2 = some c := by
      unfold place_Beside_1.f
      split
      · exact ⟨_, rfl⟩
      · exact ⟨_, rfl⟩
    obtain ⟨c, hc⟩ := hc
    by_cases d : c < 0
    · refine ⟨o', hp.trans (swap_perm i o (by omega)), fun v hv => Ev.succ ?_⟩
      simp only [slices_insertionSortCmpFunc_api_Site_of_place_Beside_1.l1, r1, r0, w, hc, Option.bind_some, Int.toNat_natCast]
      exact Ev.pos (by omega) (Ev.pos (by omega) (Ev.pos (by omega) (Ev.pos (by omega) (Ev.pos (by omega) (Ev.pos d (Ev.pos (by omega) (Ev.pos (by omega) (Ev.pos (by omega) (Ev.pos (by omega) (Ev.pos (by omega) (Ev.pos (by omega) (Ev.pos (by omega) (Ev.pos (by omega) (hstep v hv))))))))))))))
    · refine ⟨o, List.Perm.refl _, fun v hv => Ev.succ ?_⟩
      simp only [slices_insertionSortCmpFunc_api_Site_of_place_Beside_1.l1, r1, r0, w, hc, Option.bind_some]
      exact Ev.pos (by omega) (Ev.pos (by omega) (Ev.pos (by omega) (Ev.pos (by omega) (Ev.pos (by omega) (Ev.neg d hv)))))
theorem insOut (n : Nat) (hn : n ≤ 12) : ∀ (d j : Nat) (o : List (Int × Int)), o.length = n → j + d = n → ∃ o' : List (Int × Int), o'.Perm o ∧ Ev (fun k => slices_insertionSortCmpFunc_api_Site_of_place_Beside_1.l0 k 0 (n : Int) (j : Int) o) o'
  | 0, j, o, ho, hj => ⟨o, List.Perm.refl _, Ev.step (f := fun _ => some _) (fun k => by simp only [slices_insertionSortCmpFunc_api_Site_of_place_Beside_1.l0]; rw [if_neg (by omega)]) (Ev.now _)⟩
  | d + 1, j, o, ho, hj => by
    obtain ⟨o1, p1, s1⟩ := insIn (j : Int) n hn j o ho (by omega)
    obtain ⟨o2, p2, e2⟩ := insOut n hn d (j + 1) o1 (by rw [p1.length_eq, ho]) (by omega)
    refine ⟨o2, p2.trans p1, Ev.succ ?_⟩
    simp only [slices_insertionSortCmpFunc_api_Site_of_place_Beside_1.l0]
    refine Ev.pos (by omega) (s1 o2 ?_)
    rw [wrap_succ (by omega)]
    exact e2
theorem SortSites_ev (o : List (Int × Int)) (ho : o.length = 5 ∨ o.length = 8) : ∃ o' : List (Int × Int), o'.Perm o ∧ o.length = o'.length ∧ Ev (fun k => slices_SortFunc_api_Site_api_Site_of_place_Beside_1.f k o) o' := by
  have hlen : ∃ b, Ev (fun k => math_bits_Len.f k (IntKind.u64.wrap (o.length : Int))) b := by
    rcases ho with h | h <;> rw [h]
    · exact ⟨3, Ev.from 20 fun k => by kernel_rfl⟩
    · exact ⟨4, Ev.from 20 fun k => by kernel_rfl⟩
  obtain ⟨b, eb⟩ := hlen
  obtain ⟨o', hp, he⟩ := insOut o.length (by omega) (o.length - 1) 1 o rfl (by omega)
  have hl : o.length = o'.length := hp.length_eq.symm
  refine ⟨o', hp, hl, ?_⟩
  unfold slices_SortFunc_api_Site_api_Site_of_place_Beside_1.f
  refine Ev.bind eb (Ev.bind (a := o') ?_ (Ev.pos hl (Ev.now _)))
  unfold slices_pdqsortCmpFunc_api_Site_of_place_Beside_1.f
  refine Ev.succ ?_
  simp only [slices_pdqsortCmpFunc_api_Site_of_place_Beside_1.l0, wrap_id (e := (o.length : Int) - 0) (by omega) (by omega)]
  refine Ev.pos (by omega) (Ev.bind (a := o') ?_ (Ev.pos hl (Ev.now _)))
  unfold slices_insertionSortCmpFunc_api_Site_of_place_Beside_1.f
  have : wrap64 (0 + 1) = ((1 : Nat) : Int) := by rw [wrap_id (by omega) (by omega)]; rfl
  rw [this]
  exact he
theorem ContainsStr_ev (L : List ByteArray) (hL : L.length ≤ 1000) (a : ByteArray) (ha : a ∈ L) : Ev (fun k => slices_Contains_string_string.f k L a) true := by
  obtain ⟨v, hv, he⟩ := loop L (fun k i (_ : Unit) => slices_Index_string_string.l0 k L a i) (fun i _ => a ∉ L.take i) (fun v => (0 : Int) ≤ v)
    (fun i s hi hI => by
      have hr : rdE eS L (i : Int) = L[i] := rdE_get eS L i hi
      by_cases c : a = L[i]
      · refine .inr ⟨i, by omega, Ev.succ ?_⟩
        simp only [slices_Index_string_string.l0, hr]
        exact Ev.pos (by omega) (Ev.pos (by omega) (Ev.pos (by omega) (Ev.pos c (Ev.now _))))
      · refine .inl ⟨(), ?_, fun v hv => Ev.succ ?_⟩
        · rw [List.take_succ_eq_append_getElem hi]
          simp only [List.mem_append, List.mem_singleton]
          rintro (h | h)
          · exact hI h
          · exact c h
        · simp only [slices_Index_string_string.l0, hr, wrap_succ (show i ≤ 1000000000000000 by omega)]
          exact Ev.pos (by omega) (Ev.pos (by omega) (Ev.pos (by omega) (Ev.neg c hv))))
    (fun s hI => absurd ha (by rwa [List.take_length] at hI)) 0 () (by omega) (by simp)
  unfold slices_Contains_string_string.f slices_Index_string_string.f
  refine Ev.bind he ?_
  have : decide (v ≥ 0) = true := by simpa using hv
  rw [this]
  exact Ev.now _
end Go.EV.Pure
namespace Go.EV.Pure
open Go Go.EV Go.RowKit
set_option linter.unusedSimpArgs false
set_option maxRecDepth 100000
/-! The neighbours of a locator. -/
/-- The southern and the western edge of a site's area. -/
def loN (N : Int) (m : Nat) : Int := N - N % hOf m - 324000
def loE (E : Int) (m : Nat) : Int := E - E % (2 * hOf m) - 648000
def okN (n : Int) : Prop := -324000 ≤ n ∧ n ≤ 323999
instance (n : Int) : Decidable (okN n) := inferInstanceAs (Decidable (_ ∧ _))
/-- One neighbour's edges, if there is one. -/
def cand (a b dn de : Int) : List (Int × Int) := if (dn ≠ 0 ∨ de ≠ 0) ∧ okN (a + dn) then [(a + dn, aroundV (b + de))] else []
def three (x : Int) (i : Nat) : Int := if i = 0 then -x else if i = 1 then 0 else x
theorem rd3 (x : Int) (i : Nat) (hi : i < 3) : rd [-x, 0, x] (i : Int) = three x i := by
  rcases (by omega : i = 0 ∨ i = 1 ∨ i = 2) with rfl | rfl | rfl <;> rfl
def hRow (a b W dn : Int) (j : Nat) : List (Int × Int) := ((List.range 3).drop j).flatMap fun i => cand a b dn (three W i)
def hAll (a b H W : Int) (i : Nat) : List (Int × Int) := ((List.range 3).drop i).flatMap fun i => hRow a b W (three H i) 0
theorem hRow_step (a b W dn : Int) (j : Nat) (hj : j < 3) : hRow a b W dn j = cand a b dn (three W j) ++ hRow a b W dn (j + 1) := by
  rcases (by omega : j = 0 ∨ j = 1 ∨ j = 2) with rfl | rfl | rfl <;> rfl
theorem hAll_step (a b H W : Int) (j : Nat) (hj : j < 3) : hAll a b H W j = hRow a b W (three H j) 0 ++ hAll a b H W (j + 1) := by
  rcases (by omega : j = 0 ∨ j = 1 ∨ j = 2) with rfl | rfl | rfl <;> rfl
theorem hRow_end (a b W dn : Int) : hRow a b W dn 3 = [] := rfl
theorem hAll_end (a b H W : Int) : hAll a b H W 3 = [] := rfl
theorem outN (x : Int) : kit_Outside.f x (-324000) 323999 = some (!decide (okN x)) := by
  unfold kit_Outside.f
  by_cases q : okN x
  · have q2 := q
    unfold okN at q2
    rw [if_neg (by omega), decide_eq_true q, decide_eq_false (show ¬ x > 323999 by omega)]
    rfl
  · have q2 := q
    unfold okN at q2
    rw [decide_eq_false q]
    by_cases c : x < -324000
    · rw [if_pos c]; rfl
    · rw [if_neg c, decide_eq_true (show x > 323999 by omega)]; rfl
theorem BesIn (s : ByteArray) (a b c d H W : Int) (hH : 0 < H ∧ H ≤ 36000) (hW : 0 < W ∧ W ≤ 72000) (ha : -324000 ≤ a ∧ a ≤ 324000) (hb : -648000 ≤ b ∧ b ≤ 648000) (i : Nat) (hi : i < 3) (F : List (Int × Int)) (hF : F.length ≤ 100) (v : List ByteArray × Int)
    (hv : Ev (fun k => place_Beside.l0 k s W [-H, 0, H] 3 ((i + 1 : Nat) : Int) a b c d F) v) (f : Nat) :
    ∀ (j : Nat) (o : List (Int × Int)), j + f = 3 → o ++ hRow a b W (three H i) j = F → Ev (fun k => place_Beside.l1 k s W [-H, 0, H] 3 (i : Int) a b c d (j : Int) o) v := by
  have w0 : wrap64 (0 - W) = -W := by rw [wrap_id (by omega) (by omega)]; omega
  have hl : ∀ x : Int, (([-x, 0, x] : List Int).length : Int) = 3 := fun x => rfl
  induction f with
  | zero =>
    intro j o hj ho
    have : j = 3 := by omega
    subst this
    have : o = F := by rwa [hRow_end, List.append_nil] at ho
    subst this
    refine Ev.succ ?_
    simp only [place_Beside.l1, w0, hl, wrap_succ (show i ≤ 1000000000000000 by omega)]
    exact Ev.neg (by omega) hv
  | succ f ih =>
    intro j o hj ho
    have hj3 : j < 3 := by omega
    rw [hRow_step _ _ _ _ _ hj3, ← List.append_assoc] at ho
    have hn := ih (j + 1) _ (by omega) ho
    have j15 : ∀ o2, o2 = o ++ cand a b (three H i) (three W j) → Ev (fun k => place_Beside.j15 k s W [-H, 0, H] 3 (i : Int) a b c d (j : Int) o2) v := fun o2 h2 => by
      subst h2
      refine Ev.succ ?_
      simp only [place_Beside.j15, wrap_succ (show j ≤ 1000000000000000 by omega)]
      exact hn
    have hol : o.length ≤ 100 := by rw [← ho] at hF; simp at hF; omega
    have b1 : -36000 ≤ three H i ∧ three H i ≤ 36000 := by unfold three; split <;> (try split) <;> omega
    have b2 : -72000 ≤ three W j ∧ three W j ≤ 72000 := by unfold three; split <;> (try split) <;> omega
    have hO := outN (a + three H i)
    refine Ev.succ ?_
    simp only [place_Beside.l1, w0, hl, rd3 W j hj3, rd3 H i hi, wrap_id (e := b + three W j) (by omega) (by omega), wrap_id (e := a + three H i) (by omega) (by omega), around_eq (b + three W j) (by omega) (by omega), Option.bind_some, hO]
    refine Ev.pos (by omega) (Ev.pos (by omega) (Ev.pos (by omega) ?_))
    have yes : (three H i ≠ 0 ∨ three W j ≠ 0) → Ev (fun k => if (!decide (okN (a + three H i))) = true then place_Beside.j15 k s W [-H, 0, H] 3 (i : Int) a b c d (j : Int) o else if o.length + 1 ≤ 549755813888 then place_Beside.j15 k s W [-H, 0, H] 3 (i : Int) a b c d (j : Int) (o ++ [(a + three H i, aroundV (b + three W j))]) else Option.none) v := fun hne => by
      by_cases q : okN (a + three H i)
      · exact Ev.neg (by simp [q]) (Ev.pos (by omega) (j15 _ (by unfold cand; rw [if_pos ⟨hne, q⟩])))
      · exact Ev.pos (by simp [q]) (j15 _ (by unfold cand; rw [if_neg fun h => q h.2, List.append_nil]))
    by_cases c1 : three H i = 0
    · refine Ev.pos c1 ?_
      by_cases c2 : three W j = 0
      · exact Ev.pos c2 (j15 _ (by unfold cand; rw [if_neg (by rintro ⟨h | h, _⟩; exact h c1; exact h c2), List.append_nil]))
      · exact Ev.neg c2 (yes (.inr c2))
    · exact Ev.neg c1 (yes (.inl c1))
theorem BesOut (s : ByteArray) (a b c d H W : Int) (hH : 0 < H ∧ H ≤ 36000) (hW : 0 < W ∧ W ≤ 72000) (ha : -324000 ≤ a ∧ a ≤ 324000) (hb : -648000 ≤ b ∧ b ≤ 648000) (F : List (Int × Int)) (hF : F.length ≤ 100) (v : List ByteArray × Int)
    (hv : Ev (fun k => place_Beside.l0 k s W [-H, 0, H] 3 3 a b c d F) v) (f : Nat) :
    ∀ (j : Nat) (o : List (Int × Int)), j + f = 3 → o ++ hAll a b H W j = F → Ev (fun k => place_Beside.l0 k s W [-H, 0, H] 3 (j : Int) a b c d o) v := by
  induction f with
  | zero =>
    intro j o hj ho
    have : j = 3 := by omega
    subst this
    have : o = F := by rwa [hAll_end, List.append_nil] at ho
    subst this
    exact hv
  | succ f ih =>
    intro j o hj ho
    have hj3 : j < 3 := by omega
    rw [hAll_step _ _ _ _ _ hj3, ← List.append_assoc] at ho
    have hn := ih (j + 1) _ (by omega) ho
    have hol : (o ++ hRow a b W (three H j) 0).length ≤ 100 := by rw [← ho] at hF; simp at hF ⊢; omega
    have hl : (([-H, 0, H] : List Int).length : Int) = 3 := rfl
    refine Ev.succ ?_
    simp only [place_Beside.l0, hl]
    exact Ev.pos (by omega) (Ev.pos (by omega) (Ev.pos (by omega) (BesIn s a b c d H W hH hW ha hb j hj3 _ hol v hn 3 0 o (by omega) rfl)))
theorem BesEnd (s : ByteArray) (m : Nat) (hs : s.size = m) (hm : m = 2 ∨ m = 4 ∨ m = 6) (r : List (Int × Int)) (hr : r.length ≤ 100) (hR : ∀ p ∈ r, Right p.1 p.2 ∧ p.1 ≤ 323999) (d : Nat) : ∀ (j : Nat), j + d = r.length →
    Ev (fun k => place_Beside.l2 k s (r.length : Int) (j : Int) r ((r.take j).map fun p => loc (p.1 + 324000) (p.2 + 648000) m)) (r.map fun p => loc (p.1 + 324000) (p.2 + 648000) m, 0) := by
  induction d with
  | zero =>
    intro j hj
    rw [List.take_of_length_le (by omega)]
    refine Ev.step (f := fun _ => some _) (fun k => ?_) (Ev.now _)
    simp only [place_Beside.l2]
    rw [if_neg (by omega)]
  | succ d ih =>
    intro j hj
    have hjl : j < r.length := by omega
    obtain ⟨h1, h2⟩ := hR _ (List.getElem_mem hjl)
    have e := locator_ev r[j].1 r[j].2 h1 m hm
    have hmn : mn (r[j].1 + 324000) 647999 = r[j].1 + 324000 := by rw [mn_eq, if_neg (by omega)]
    rw [hmn] at e
    have hn := ih (j + 1) (by omega)
    rw [List.take_succ_eq_append_getElem hjl, List.map_append, List.map_cons, List.map_nil] at hn
    have hlm : ((r.take j).map fun p => loc (p.1 + 324000) (p.2 + 648000) m).length ≤ 100 := by simp; omega
    refine Ev.succ ?_
    simp only [place_Beside.l2, rdE_get e_II r j hjl, hs, wrap_succ (show j ≤ 1000000000000000 by omega)]
    exact Ev.pos (by omega) (Ev.pos (by omega) (Ev.pos (by omega) (Ev.bind e (Ev.pos (by omega) hn))))
end Go.EV.Pure
namespace Go.EV.Pure
open Go Go.EV Go.RowKit
set_option linter.unusedSimpArgs false
set_option maxRecDepth 100000
theorem loc_cell (N E : Int) (m : Nat) (h : inW N E) (hm : m = 2 ∨ m = 4 ∨ m = 6) : loc (N - N % hOf m) (E - E % (2 * hOf m)) m = loc N E m := by
  unfold inW at *
  rcases hm with rfl | rfl | rfl
  · have : hOf 2 = 36000 := rfl
    rw [this]
    unfold loc dig
    simp only [List.take_succ_cons, List.take_zero]
    congr 1
    refine List.cons_eq_cons.2 ⟨by omega, List.cons_eq_cons.2 ⟨by omega, rfl⟩⟩
  · have : hOf 4 = 3600 := rfl
    rw [this]
    unfold loc dig
    simp only [List.take_succ_cons, List.take_zero]
    congr 1
    refine List.cons_eq_cons.2 ⟨by omega, List.cons_eq_cons.2 ⟨by omega, List.cons_eq_cons.2 ⟨by omega, List.cons_eq_cons.2 ⟨by omega, rfl⟩⟩⟩⟩
  · have : hOf 6 = 150 := rfl
    rw [this]
    unfold loc dig
    simp only [List.take_succ_cons, List.take_zero]
    congr 1
    refine List.cons_eq_cons.2 ⟨by omega, List.cons_eq_cons.2 ⟨by omega, List.cons_eq_cons.2 ⟨by omega, List.cons_eq_cons.2 ⟨by omega, List.cons_eq_cons.2 ⟨by omega, List.cons_eq_cons.2 ⟨by omega, rfl⟩⟩⟩⟩⟩⟩
theorem three_cases (x : Int) (i : Nat) (hi : i < 3) : three x i = -x ∨ three x i = 0 ∨ three x i = x := by
  rcases (by omega : i = 0 ∨ i = 1 ∨ i = 2) with rfl | rfl | rfl
  · exact .inl rfl
  · exact .inr (.inl rfl)
  · exact .inr (.inr rfl)
theorem three_neg (x : Int) (i : Nat) (hi : i < 3) : three x (2 - i) = -three x i := by
  rcases (by omega : i = 0 ∨ i = 1 ∨ i = 2) with rfl | rfl | rfl
  · show x = - -x; omega
  · rfl
  · rfl
theorem back0 (H N E dn de : Int) (hH : H = 36000 ∨ H = 3600 ∨ H = 150) (h1 : 0 ≤ N ∧ N ≤ 647999) (h2 : 0 ≤ E ∧ E ≤ 1295999) (c1 : dn = -H ∨ dn = 0 ∨ dn = H) (c2 : de = -(2 * H) ∨ de = 0 ∨ de = 2 * H)
    (hok : -324000 ≤ N - N % H - 324000 + dn ∧ N - N % H - 324000 + dn ≤ 323999) :
    (0 ≤ N - N % H - 324000 + dn + 324000 ∧ N - N % H - 324000 + dn + 324000 ≤ 647999) ∧
    (N - N % H - 324000 + dn + 324000) - (N - N % H - 324000 + dn + 324000) % H - 324000 = N - N % H - 324000 + dn ∧
    ((E - E % (2 * H) - 648000 + de + 648000) % 1296000 - 648000 + 648000) - ((E - E % (2 * H) - 648000 + de + 648000) % 1296000 - 648000 + 648000) % (2 * H) - 648000 = (E - E % (2 * H) - 648000 + de + 648000) % 1296000 - 648000 ∧
    (-324000 ≤ N - N % H - 324000 ∧ N - N % H - 324000 ≤ 323999) ∧
    ((E - E % (2 * H) - 648000 + de + 648000) % 1296000 - 648000 + -de + 648000) % 1296000 - 648000 = E - E % (2 * H) - 648000 := by
  rcases hH with rfl | rfl | rfl
  · refine ⟨by omega, ?_, ?_, by omega, ?_⟩
    · rcases c1 with rfl | rfl | rfl <;> omega
    · rcases c2 with rfl | rfl | rfl <;> omega
    · rcases c2 with rfl | rfl | rfl <;> omega
  · refine ⟨by omega, ?_, ?_, by omega, ?_⟩
    · rcases c1 with rfl | rfl | rfl <;> omega
    · rcases c2 with rfl | rfl | rfl <;> omega
    · rcases c2 with rfl | rfl | rfl <;> omega
  · refine ⟨by omega, ?_, ?_, by omega, ?_⟩
    · rcases c1 with rfl | rfl | rfl <;> omega
    · rcases c2 with rfl | rfl | rfl <;> omega
    · rcases c2 with rfl | rfl | rfl <;> omega
theorem hOf_cases (m : Nat) : hOf m = 36000 ∨ hOf m = 3600 ∨ hOf m = 150 := by unfold hOf; split <;> (try split) <;> omega
theorem back (m : Nat) (N E : Int) (h : inW N E) (i j : Nat) (hi : i < 3) (hj : j < 3) (hok : okN (loN N m + three (hOf m) i)) :
    inW (loN N m + three (hOf m) i + 324000) (aroundV (loE E m + three (2 * hOf m) j) + 648000) ∧
    loN (loN N m + three (hOf m) i + 324000) m = loN N m + three (hOf m) i ∧ loE (aroundV (loE E m + three (2 * hOf m) j) + 648000) m = aroundV (loE E m + three (2 * hOf m) j) ∧
    okN (loN N m) ∧ aroundV (aroundV (loE E m + three (2 * hOf m) j) + three (2 * hOf m) (2 - j)) = loE E m := by
  have ab := aroundV_bd (loE E m + three (2 * hOf m) j)
  obtain ⟨a1, a2, a3, a4, a5⟩ := back0 (hOf m) N E (three (hOf m) i) (three (2 * hOf m) j) (hOf_cases m) h.1 h.2 (three_cases _ i hi) (three_cases _ j hj) hok
  rw [three_neg (2 * hOf m) j hj]
  exact ⟨⟨a1, by omega⟩, a2, a3, a4, a5⟩
theorem lo_bd (m : Nat) (N E : Int) (h : inW N E) (hm : m = 2 ∨ m = 4 ∨ m = 6) : (-324000 ≤ loN N m ∧ loN N m ≤ 323999) ∧ -648000 ≤ loE E m ∧ loE E m ≤ 647999 := by
  unfold inW loN loE at *
  rcases hm with rfl | rfl | rfl
  · rw [show hOf 2 = 36000 from rfl]; omega
  · rw [show hOf 4 = 3600 from rfl]; omega
  · rw [show hOf 6 = 150 from rfl]; omega
theorem hRow_len (a b W dn : Int) (hW : 0 < W) (hd : dn ≠ 0) : (hRow a b W dn 0).length = if okN (a + dn) then 3 else 0 := by
  have e : hRow a b W dn 0 = cand a b dn (-W) ++ (cand a b dn 0 ++ (cand a b dn W ++ [])) := rfl
  have c : ∀ de, cand a b dn de = if okN (a + dn) then [(a + dn, aroundV (b + de))] else [] := fun de => by
    unfold cand
    by_cases q : okN (a + dn)
    · rw [if_pos ⟨.inl hd, q⟩, if_pos q]
    · rw [if_neg fun h => q h.2, if_neg q]
  rw [e, c, c, c]
  by_cases q : okN (a + dn)
  · simp only [if_pos q]; rfl
  · simp only [if_neg q]; rfl
theorem hRow_len0 (a b W : Int) (hW : 0 < W) (q : okN (a + 0)) : (hRow a b W 0 0).length = 2 := by
  have e : hRow a b W 0 0 = cand a b 0 (-W) ++ (cand a b 0 0 ++ (cand a b 0 W ++ [])) := rfl
  have c1 : cand a b 0 (-W) = [(a + 0, aroundV (b + -W))] := by unfold cand; rw [if_pos ⟨.inr (by omega), q⟩]
  have c2 : cand a b 0 0 = [] := by unfold cand; rw [if_neg (by rintro ⟨h | h, _⟩ <;> exact h rfl)]
  have c3 : cand a b 0 W = [(a + 0, aroundV (b + W))] := by unfold cand; rw [if_pos ⟨.inr (by omega), q⟩]
  rw [e, c1, c2, c3]
  rfl
theorem hAll_len (a b H W : Int) (hH : 0 < H ∧ H ≤ 36000) (hW : 0 < W) (ha : okN a) : (hAll a b H W 0).length = 5 ∨ (hAll a b H W 0).length = 8 := by
  have e : hAll a b H W 0 = hRow a b W (-H) 0 ++ (hRow a b W 0 0 ++ (hRow a b W H 0 ++ [])) := rfl
  have h0 : okN (a + 0) := by rw [Int.add_zero]; exact ha
  rw [e]
  simp only [List.length_append, List.length_nil, hRow_len a b W (-H) hW (by omega), hRow_len a b W H hW (by omega), hRow_len0 a b W hW h0]
  by_cases q1 : okN (a + -H)
  · rw [if_pos q1]
    by_cases q2 : okN (a + H)
    · rw [if_pos q2]; omega
    · rw [if_neg q2]; omega
  · have q2 : okN (a + H) := by unfold okN at *; omega
    rw [if_neg q1, if_pos q2]; omega
theorem mem_hAll (a b H W : Int) (p : Int × Int) : p ∈ hAll a b H W 0 ↔ ∃ i < 3, ∃ j < 3, (three H i ≠ 0 ∨ three W j ≠ 0) ∧ okN (a + three H i) ∧ p = (a + three H i, aroundV (b + three W j)) := by
  unfold hAll hRow
  simp only [List.drop_zero, List.mem_flatMap, List.mem_range]
  constructor
  · rintro ⟨i, hi, j, hj, h⟩
    unfold cand at h
    split at h
    · rename_i q
      exact ⟨i, hi, j, hj, q.1, q.2, by simpa using h⟩
    · cases h
  · rintro ⟨i, hi, j, hj, h1, h2, h3⟩
    refine ⟨i, hi, j, hj, ?_⟩
    unfold cand
    rw [if_pos ⟨h1, h2⟩, h3]
    simp
theorem Beside_ev (N E : Int) (m : Nat) (h : inW N E) (hm : m = 2 ∨ m = 4 ∨ m = 6) : ∃ r : List (Int × Int), r.Perm (hAll (loN N m) (loE E m) (hOf m) (2 * hOf m) 0) ∧ (r.length = 5 ∨ r.length = 8) ∧
    Ev (fun k => place_Beside.f k (loc N E m)) (r.map fun p => loc (p.1 + 324000) (p.2 + 648000) m, 0) := by
  have hb := hOf_bd m
  obtain ⟨l1, l2⟩ := lo_bd m N E h hm
  have hlen := hAll_len (loN N m) (loE E m) (hOf m) (2 * hOf m) (by omega) (by omega) l1
  obtain ⟨r, hp, hl, es⟩ := SortSites_ev _ hlen
  have hrl : r.length = 5 ∨ r.length = 8 := by rw [← hl]; exact hlen
  have hR : ∀ p ∈ r, Right p.1 p.2 ∧ p.1 ≤ 323999 := fun p hpm => by
    obtain ⟨i, hi, j, hj, q1, q2, q3⟩ := (mem_hAll _ _ _ _ _).1 (hp.mem_iff.1 hpm)
    have ab := aroundV_bd (loE E m + three (2 * hOf m) j)
    unfold okN at q2
    rw [q3]
    unfold Right
    simp only
    omega
  refine ⟨r, hp, hrl, ?_⟩
  have hend := BesEnd (loc N E m) m (loc_size N E m (by omega)) hm r (by omega) hR r.length 0 (by omega)
  have h3 : Ev (fun k => place_Beside.l0 k (loc N E m) (2 * hOf m) [-hOf m, 0, hOf m] 3 3 (loN N m) (loE E m) (loN N m + hOf m) (loE E m + 2 * hOf m) (hAll (loN N m) (loE E m) (hOf m) (2 * hOf m) 0)) (r.map fun p => loc (p.1 + 324000) (p.2 + 648000) m, 0) := by
    refine Ev.succ ?_
    simp only [place_Beside.l0]
    exact Ev.neg (by omega) (Ev.bind es (Ev.pos hl hend))
  have h0 := BesOut (loc N E m) (loN N m) (loE E m) (loN N m + hOf m) (loE E m + 2 * hOf m) (hOf m) (2 * hOf m) (by omega) (by omega) (by omega) (by omega) (hAll (loN N m) (loE E m) (hOf m) (2 * hOf m) 0) (by omega) _ h3 3 0 [] (by omega) rfl
  unfold place_Beside.f
  refine Ev.bind (IsLocator_ev _ (loc_ok N E m h hm)) (Ev.pos rfl (Ev.bind (area_ev N E m h hm) ?_))
  have e1 : N - N % hOf m - 324000 = loN N m := rfl
  have e2 : E - E % (2 * hOf m) - 648000 = loE E m := rfl
  simp only [e1, e2]
  have w1 : wrap64 (loE E m + 2 * hOf m - loE E m) = 2 * hOf m := by rw [wrap_id (by omega) (by omega)]; omega
  have w2 : wrap64 (loN N m + hOf m - loN N m) = hOf m := by rw [wrap_id (by omega) (by omega)]; omega
  have w3 : wrap64 (0 - hOf m) = -hOf m := by rw [wrap_id (by omega) (by omega)]; omega
  rw [w1, w2, w3]
  exact h0
theorem enc_num : ∀ v : Fin 128, Utf8.encode (IntKind.i32.wrap (wrap64 (v.val : Int))) = bytesE [(v.val : Int)] := by decide +kernel
theorem enc_int (v : Int) (h : 0 ≤ v ∧ v < 128) : Utf8.encode (IntKind.i32.wrap (wrap64 v)) = bytesE [v] := by
  have := enc_num ⟨v.toNat, by omega⟩
  simp only at this
  rwa [show ((v.toNat : Nat) : Int) = v by omega] at this
theorem bytes_app (a b : List Int) : bytesE a ++ bytesE b = bytesE (a ++ b) := by
  unfold bytesE
  apply ByteArray.ext
  simp [strOfNums]
theorem letter_eq (x q : Int) (hx : 0 ≤ x) (hq : 0 < q ∧ q ≤ 24) : pileref1_LocatorFor_1.f x q = some (bytesE [97 + x % q]) := by
  have h1 := Int.emod_nonneg x (show q ≠ 0 by omega)
  have h2 := Int.emod_lt_of_pos x (show 0 < q by omega)
  unfold pileref1_LocatorFor_1.f
  rw [if_neg (by omega), tmod_pos hx, enc_int _ (by omega)]
theorem LocatorFor_ev (n e : Int) (hs : Right n e) (m : Nat) (hm : m = 2 ∨ m = 4 ∨ m = 6) : Ev (fun k => pileref1_LocatorFor.f k n e (m : Int)) (loc (mn (n + 324000) 647999) (e + 648000) m) := by
  unfold Right at hs
  have hN : 0 ≤ mn (n + 324000) 647999 ∧ mn (n + 324000) 647999 ≤ 647999 := by rw [mn_eq]; split <;> omega
  unfold pileref1_LocatorFor.f
  rw [wrap_id (e := n + 324000) (by omega) (by omega), wrap_id (e := e + 648000) (by omega) (by omega)]
  have j8 : ∀ x : ByteArray, Ev (fun k => pileref1_LocatorFor.j8 k x) x := fun x => Ev.from 1 fun k => rfl
  have j6 : ∀ (x : ByteArray) (v : ByteArray), (m = 6 → v = x ++ (bytesE [97 + (e + 648000) / 300 % 24] ++ bytesE [97 + mn (n + 324000) 647999 / 150 % 24])) → (m ≠ 6 → v = x) → x.size ≤ 1000 → Ev (fun k => pileref1_LocatorFor.j6 k n e (m : Int) x) v := fun x v h1 h2 hx => by
    refine Ev.succ ?_
    simp only [pileref1_LocatorFor.j6]
    rw [wrap_id (e := n + 324000) (by omega) (by omega), wrap_id (e := e + 648000) (by omega) (by omega)]
    generalize mn (n + 324000) 647999 = N at *
    by_cases c : m = 6
    · rw [tdiv_pos (a := e + 648000) (by omega), tdiv_pos (a := N) (by omega), wrap_id (e := (e + 648000) / 300) (by omega) (by omega), wrap_id (e := N / 150) (by omega) (by omega), letter_eq _ _ (by omega) (by omega), letter_eq _ _ (by omega) (by omega)]
      simp only [Option.bind_some]
      rw [h1 c]
      have z : ∀ y : Int, (bytesE [y]).size = 1 := fun y => by rw [bytes_size]; rfl
      refine Ev.pos (by omega) (Ev.pos (by rw [z, z]; omega) (Ev.pos (by rw [ByteArray.size_append, z, z]; omega) (j8 _)))
    · rw [h2 c]
      exact Ev.neg (by omega) (j8 _)
  generalize mn (n + 324000) 647999 = N at *
  rw [tdiv_pos (a := e + 648000) (n := 72000) (by omega), tdiv_pos (a := N) (n := 36000) (by omega), tdiv_pos (a := e + 648000) (n := 7200) (by omega), tdiv_pos (a := N) (n := 3600) (by omega), wrap_id (e := (e + 648000) / 72000) (by omega) (by omega), wrap_id (e := N / 36000) (by omega) (by omega), wrap_id (e := (e + 648000) / 7200) (by omega) (by omega), wrap_id (e := N / 3600) (by omega) (by omega)]
  have hE : 0 ≤ e + 648000 ∧ e + 648000 ≤ 1295999 := by omega
  generalize e + 648000 = E at *
  have z : ∀ y : Int, (bytesE [y]).size = 1 := fun y => by rw [bytes_size]; rfl
  have z2 : ∀ y x : Int, (bytesE [y] ++ bytesE [x]).size = 2 := fun y x => by rw [ByteArray.size_append, z, z]
  rw [letter_eq _ _ (by omega) (by omega), letter_eq _ _ (by omega) (by omega), tmod_pos (a := E / 7200) (by omega), tmod_pos (a := N / 3600) (by omega), enc_int (48 + E / 7200 % 10) (by omega), enc_int (48 + N / 3600 % 10) (by omega)]
  simp only [Option.bind_some]
  refine Ev.pos (by rw [z, z]; omega) ?_
  rcases hm with rfl | rfl | rfl
  · refine Ev.neg (by omega) (j6 _ _ (fun h => by omega) (fun _ => ?_) (by rw [z2]; omega))
    rw [bytes_app]
    unfold loc dig
    simp only [List.take_succ_cons, List.take_zero, List.cons_append, List.nil_append]
    congr 1
    refine List.cons_eq_cons.2 ⟨by omega, List.cons_eq_cons.2 ⟨by omega, rfl⟩⟩
  · refine Ev.pos (by omega) (Ev.pos (by rw [z, z]; omega) (Ev.pos (by rw [z2, z2]; omega) (j6 _ _ (fun h => by omega) (fun _ => ?_) (by rw [ByteArray.size_append, z2, z2]; omega))))
    rw [bytes_app, bytes_app, bytes_app]
    unfold loc dig
    simp only [List.take_succ_cons, List.take_zero, List.cons_append, List.nil_append]
    congr 1
    refine List.cons_eq_cons.2 ⟨by omega, List.cons_eq_cons.2 ⟨by omega, List.cons_eq_cons.2 ⟨by omega, List.cons_eq_cons.2 ⟨by omega, rfl⟩⟩⟩⟩
  · refine Ev.pos (by omega) (Ev.pos (by rw [z, z]; omega) (Ev.pos (by rw [z2, z2]; omega) (j6 _ _ (fun _ => ?_) (fun h => absurd rfl h) (by rw [ByteArray.size_append, z2, z2]; omega))))
    rw [bytes_app, bytes_app, bytes_app, bytes_app, bytes_app]
    unfold loc dig
    simp only [List.take_succ_cons, List.take_zero, List.cons_append, List.nil_append]
    congr 1
    refine List.cons_eq_cons.2 ⟨by omega, List.cons_eq_cons.2 ⟨by omega, List.cons_eq_cons.2 ⟨by omega, List.cons_eq_cons.2 ⟨by omega, List.cons_eq_cons.2 ⟨by omega, List.cons_eq_cons.2 ⟨by omega, rfl⟩⟩⟩⟩⟩⟩
theorem mutual_one (N E : Int) (m : Nat) (h : inW N E) (hm : m = 2 ∨ m = 4 ∨ m = 6) (p : Int × Int) (hp : p ∈ hAll (loN N m) (loE E m) (hOf m) (2 * hOf m) 0) :
    ∃ R : List ByteArray, R.length ≤ 1000 ∧ Ev (fun k => place_Beside.f k (loc (p.1 + 324000) (p.2 + 648000) m)) (R, 0) ∧ loc N E m ∈ R := by
  obtain ⟨i, hi, j, hj, q1, q2, q3⟩ := (mem_hAll _ _ _ _ _).1 hp
  obtain ⟨a1, a2, a3, a4, a5⟩ := back m N E h i j hi hj q2
  subst q3
  obtain ⟨r, hp2, hl, ev⟩ := Beside_ev _ _ m a1 hm
  refine ⟨_, by rw [List.length_map]; omega, ev, ?_⟩
  rw [List.mem_map]
  refine ⟨(loN N m, loE E m), hp2.mem_iff.2 ?_, ?_⟩
  · rw [mem_hAll]
    refine ⟨2 - i, by omega, 2 - j, by omega, ?_, ?_, ?_⟩
    · rw [three_neg _ i hi, three_neg _ j hj]; omega
    · rw [a2, three_neg _ i hi, show loN N m + three (hOf m) i + -three (hOf m) i = loN N m by omega]; exact a4
    · rw [a2, a3, three_neg (hOf m) i hi, a5, show loN N m + three (hOf m) i + -three (hOf m) i = loN N m by omega]
  · have e1 : loN N m + 324000 = N - N % hOf m := by unfold loN; omega
    have e2 : loE E m + 648000 = E - E % (2 * hOf m) := by unfold loE; omega
    simp only [e1, e2]
    exact loc_cell N E m h hm
theorem NeighboursAreMutual (l : List Int) (hl : l.length ≤ 140737488351232) : ∃ k, pilekeep1_NeighboursAreMutual.f k l = some true := by
  obtain ⟨n, e, s1, e1, hr, q1, q2⟩ := RightSite_spec l 0 (by omega) (by omega) hl
  obtain ⟨m, e2, mm⟩ := Pick_spec l s1 [2, 4, 6] (by omega) (by omega) hl (by simp) (by simp)
  simp only [List.mem_cons, List.not_mem_nil, or_false] at mm
  obtain ⟨m, rfl⟩ : ∃ k : Nat, m = k := ⟨m.toNat, by omega⟩
  have hm : m = 2 ∨ m = 4 ∨ m = 6 := by omega
  have e3 := LocatorFor_ev n e hr m hm
  have hin : inW (mn (n + 324000) 647999) (e + 648000) := by
    unfold Right at hr
    unfold inW
    rw [mn_eq]
    constructor
    · split <;> omega
    · omega
  generalize mn (n + 324000) 647999 = N at *
  generalize e + 648000 = E at *
  obtain ⟨r, hp, hlen, e4⟩ := Beside_ev N E m hin hm
  have run : ∀ (d j : Nat), j + d = r.length → Ev (fun k => pilekeep1_NeighboursAreMutual.l0 k (loc N E m) (r.map fun p => loc (p.1 + 324000) (p.2 + 648000) m) ((r.map fun p => loc (p.1 + 324000) (p.2 + 648000) m).length : Int) (j : Int)) true := by
    intro d
    have hlm : (r.map fun p => loc (p.1 + 324000) (p.2 + 648000) m).length = r.length := by simp
    induction d with
    | zero =>
      intro j hj
      refine Ev.succ ?_
      simp only [pilekeep1_NeighboursAreMutual.l0, hlm]
      exact Ev.neg (by omega) (Ev.bind ready_ev (Ev.now _))
    | succ d ih =>
      intro j hj
      have hjl : j < r.length := by omega
      obtain ⟨R, hR, ev, hmem⟩ := mutual_one N E m hin hm r[j] (hp.mem_iff.1 (List.getElem_mem hjl))
      have hrd : rdE eS (r.map fun p => loc (p.1 + 324000) (p.2 + 648000) m) (j : Int) = loc (r[j].1 + 324000) (r[j].2 + 648000) m := by rw [rdE_get eS _ j (by omega)]; simp
      have hn := ih (j + 1) (by omega)
      simp only [hlm] at hn
      refine Ev.succ ?_
      simp only [pilekeep1_NeighboursAreMutual.l0, hlm, hrd, wrap_succ (show j ≤ 1000000000000000 by omega)]
      exact Ev.pos (by omega) (Ev.pos (by omega) (Ev.pos (by omega) (Ev.bind ev (Ev.pos rfl (Ev.bind (ContainsStr_ev R hR _ hmem) (Ev.pos rfl hn))))))
  have hrun := run r.length 0 (by omega)
  refine (Ev.bind e1 (Ev.bind e2 (Ev.bind e3 (Ev.bind e4 (Ev.pos rfl ?_))))).ex
  have hlm : ((r.map fun p => loc (p.1 + 324000) (p.2 + 648000) m).length : Int) = r.length := by simp
  by_cases c : r.length = 8
  · exact Ev.pos (by rw [hlm]; omega) hrun
  · exact Ev.neg (by rw [hlm]; omega) (Ev.pos (by rw [hlm]; omega) hrun)
end Go.EV.Pure
