/- The plain law: the Lean functions answer true for every list. -/
import Derived.Test.YtonnpocamipbiaaDoorXWaysBeginAndEnd
import Derived.KernelRfl
set_option linter.unusedVariables false
set_option linter.unusedSimpArgs false
/-! Plain laws that all statements use: numbers that don't wrap, functions with fuel, loops over lists, the stream's draws. -/
namespace Go.EV.Pure
open Go Go.EV Go.RowKit
theorem wrap_id {e : Int} (h1 : -9223372036854775808 ≤ e) (h2 : e ≤ 9223372036854775807) : wrap64 e = e := by
  unfold wrap64
  omega
theorem tmod_pos {a n : Int} (h : 0 ≤ a) : a.tmod n = a % n := Int.tmod_eq_emod_of_nonneg h
theorem tdiv_pos {a n : Int} (h : 0 ≤ a) : a.tdiv n = a / n := Int.tdiv_eq_ediv_of_nonneg h
theorem rdE_get {α : Type} (E : Enc α) (l : List α) (i : Nat) (h : i < l.length) : rdE E l (i : Int) = l[i] := by
  simp [rdE, List.getD, List.getElem?_eq_getElem h]
theorem rd_mem (l : List Int) (i : Int) (h0 : 0 ≤ i) (h1 : i < l.length) : rd l i ∈ l := by
  have h : i.toNat < l.length := by omega
  have : rd l i = l[i.toNat] := by simp [rd, List.getD, List.getElem?_eq_getElem h]
  rw [this]
  exact List.getElem_mem h
theorem wrap_succ {i : Nat} (h : i ≤ 1000000000000000) : wrap64 ((i : Int) + 1) = ((i + 1 : Nat) : Int) := by rw [wrap_id (by omega) (by omega)]; omega

/-- From some fuel on the function answers v. -/
def Ev {α : Type} (f : Nat → Option α) (v : α) : Prop := ∃ K, ∀ k, K ≤ k → f k = some v
section
variable {α β : Type}
theorem Ev.now (v : α) : Ev (fun _ => some v) v := ⟨0, fun _ _ => rfl⟩
theorem Ev.of {f : Nat → Option α} {v : α} (h : ∀ k, f k = some v) : Ev f v := ⟨0, fun k _ => h k⟩
theorem Ev.from {f : Nat → Option α} {v : α} (n : Nat) (h : ∀ k, f (k + n) = some v) : Ev f v := ⟨n, fun k hk => by
  obtain ⟨m, rfl⟩ : ∃ m, k = m + n := ⟨k - n, by omega⟩
  exact h m⟩
theorem Ev.bind {f : Nat → Option α} {a : α} {g : Nat → α → Option β} {v : β} (h : Ev f a) (h2 : Ev (fun k => g k a) v) : Ev (fun k => (f k).bind (g k)) v := by
  obtain ⟨K, h⟩ := h
  obtain ⟨K2, h2⟩ := h2
  exact ⟨max K K2, fun k hk => by show (f k).bind (g k) = some v; rw [h k (by omega)]; exact h2 k (by omega)⟩
theorem Ev.step {g f : Nat → Option α} {v : α} (h : ∀ k, g (k + 1) = f k) (h2 : Ev f v) : Ev g v := by
  obtain ⟨K, h2⟩ := h2
  exact ⟨K + 1, fun k hk => by
    obtain ⟨m, rfl⟩ : ∃ m, k = m + 1 := ⟨k - 1, by omega⟩
    rw [h m]; exact h2 m (by omega)⟩
theorem Ev.succ {g : Nat → Option α} {v : α} (h : Ev (fun k => g (k + 1)) v) : Ev g v := Ev.step (fun _ => rfl) h
theorem Ev.ex {f : Nat → Option α} {v : α} (h : Ev f v) : ∃ k, f k = some v := let ⟨K, h⟩ := h; ⟨K, h K (Nat.le_refl _)⟩
theorem Ev.pos {p : Prop} [Decidable p] {f g : Nat → Option α} {v : α} (c : p) (h1 : Ev f v) : Ev (fun k => if p then f k else g k) v := by simp only [if_pos c]; exact h1
theorem Ev.neg {p : Prop} [Decidable p] {f g : Nat → Option α} {v : α} (c : ¬ p) (h1 : Ev g v) : Ev (fun k => if p then f k else g k) v := by simp only [if_neg c]; exact h1

/-- A loop over a list by its index: what holds of its state carries over each round, or the round is the last one. -/
theorem loop {σ ρ : Type} (l : List α) (F : Nat → Int → σ → Option ρ) (I : Nat → σ → Prop) (post : ρ → Prop)
    (hstep : ∀ (i : Nat) (s : σ), i < l.length → I i s → (∃ s', I (i + 1) s' ∧ ∀ v, Ev (fun k => F k ((i + 1 : Nat) : Int) s') v → Ev (fun k => F k (i : Int) s) v) ∨ ∃ v, post v ∧ Ev (fun k => F k (i : Int) s) v)
    (hend : ∀ s, I l.length s → ∃ v, post v ∧ Ev (fun k => F k (l.length : Int) s) v) :
    ∀ (i : Nat) (s : σ), i ≤ l.length → I i s → ∃ v, post v ∧ Ev (fun k => F k (i : Int) s) v := by
  intro i
  generalize hd : l.length - i = d
  induction d generalizing i with
  | zero =>
    intro s hi hI
    obtain rfl : i = l.length := by omega
    exact hend s hI
  | succ d ih =>
    intro s hi hI
    rcases hstep i s (by omega) hI with ⟨s', h1, h2⟩ | h
    · obtain ⟨v, h3, h4⟩ := ih (i + 1) (by omega) s' (by omega) h1
      exact ⟨v, h3, h2 v h4⟩
    · exact h
end
end Go.EV.Pure
namespace Go.EV.Pure
open Go Go.EV Go.RowKit
theorem Below_j (x : Int) : Ev (fun k => pilemake_Below.j6 k x) x := Ev.from 1 fun k => rfl
theorem Below_spec (x n : Int) (hn : n ≤ 9223372036854775807) : ∃ r, Ev (fun k => pilemake_Below.f k x n) r ∧ 0 ≤ r ∧ (1 ≤ n → r < n) ∧ (n < 1 → r = 0) := by
  unfold pilemake_Below.f
  by_cases h : n < 1
  · simp only [if_pos h]
    exact ⟨0, Ev.now _, by omega, by omega, fun _ => rfl⟩
  · simp only [if_neg h, if_neg (show ¬ n = 0 by omega)]
    have hm := Int.natAbs_tmod x n
    have hm2 := Nat.mod_lt x.natAbs (show n.natAbs > 0 by omega)
    have h1 : x.tmod n < n := by omega
    have h2 : -n < x.tmod n := by omega
    by_cases h3 : x.tmod n < 0
    · simp only [if_pos h3]
      refine ⟨_, Below_j _, ?_, ?_, ?_⟩ <;> rw [wrap_id (by omega) (by omega)] <;> omega
    · simp only [if_neg h3]
      exact ⟨_, Below_j _, by omega, by omega, by omega⟩
theorem Next_spec (l : List Int) (s n : Int) (h0 : 0 ≤ s) (h1 : s ≤ 4611686018427387904) (hn : n ≤ 9223372036854775807) (hl : l.length ≤ 140737488351232) :
    ∃ r, Ev (fun k => pilemake_Stream_Next.f k l s n) (r, l, s + 1) ∧ 0 ≤ r ∧ (1 ≤ n → r < n) := by
  unfold pilemake_Stream_Next.f
  have hs : wrap64 (s + 1) = s + 1 := wrap_id (by omega) (by omega)
  have hs2 : wrap64 (s + 1 - 1) = s := by rw [wrap_id (by omega) (by omega)]; omega
  simp only [hs, hs2]
  by_cases h : (l.length : Int) = 0
  · simp only [if_pos h]
    obtain ⟨r, hr, r0, r1, _⟩ := Below_spec (wrap64 ((s + 1) * 7919)) n hn
    exact ⟨r, Ev.bind hr (Ev.now _), r0, r1⟩
  · have e : Int.tmod s (l.length : Int) = s % (l.length : Int) := Int.tmod_eq_emod_of_nonneg h0
    have m0 : 0 ≤ s % (l.length : Int) := Int.emod_nonneg _ h
    have m1 : s % (l.length : Int) < (l.length : Int) := Int.emod_lt_of_pos _ (by omega)
    simp only [if_neg h, e, if_pos m0, if_pos m1]
    obtain ⟨a, ha, _⟩ := Below_spec (rd l (s % (l.length : Int))) 1073741824 (by omega)
    obtain ⟨r, hr, r0, r1, _⟩ := Below_spec (wrap64 (a + wrap64 (wrap64 (Int.tdiv s (l.length : Int)) * wrap64 (7919 + s % (l.length : Int))))) n hn
    exact ⟨r, Ev.bind ha (Ev.bind hr (Ev.now _)), r0, r1⟩
theorem Pick_spec (l : List Int) (s : Int) (m : List Int) (h0 : 0 ≤ s) (h1 : s ≤ 4611686018427387904) (hl : l.length ≤ 140737488351232) (hm : 1 ≤ m.length) (hm2 : m.length ≤ 1000) :
    ∃ r, Ev (fun k => pilemake_Stream_Pick.f k l s m) (r, l, s + 1) ∧ r ∈ m := by
  obtain ⟨r, hr, r0, r1⟩ := Next_spec l s (m.length : Int) h0 h1 (by omega) hl
  have r2 := r1 (by omega)
  exact ⟨rd m r, Ev.bind hr (Ev.pos r0 (Ev.pos r2 (Ev.now _))), rd_mem m r r0 r2⟩
theorem Range_spec (l : List Int) (s a b : Int) (h0 : 0 ≤ s) (h1 : s ≤ 4611686018427387904) (ha : -1099511627776 ≤ a) (hb : b ≤ 1099511627776) (hab : a ≤ b) (hl : l.length ≤ 140737488351232) :
    ∃ r, Ev (fun k => pilemake_Stream_Range.f k l s a b) (r, l, s + 1) ∧ a ≤ r ∧ r ≤ b := by
  obtain ⟨r, hr, r0, r1⟩ := Next_spec l s (b - a + 1) h0 h1 (by omega) hl
  have r2 := r1 (by omega)
  refine ⟨a + r, ?_, by omega, by omega⟩
  unfold pilemake_Stream_Range.f
  rw [wrap_id (e := b - a) (by omega) (by omega), wrap_id (e := b - a + 1) (by omega) (by omega)]
  refine Ev.neg (by omega) (Ev.bind hr ?_)
  simp only [wrap_id (e := a + r) (by omega) (by omega)]
  exact Ev.now _
theorem Flip_spec (l : List Int) (s n : Int) (h0 : 0 ≤ s) (h1 : s ≤ 4611686018427387904) (hn : n ≤ 9223372036854775807) (hl : l.length ≤ 140737488351232) :
    ∃ b, Ev (fun k => pilemake_Stream_Flip.f k l s n) (b, l, s + 1) := by
  obtain ⟨r, hr, _⟩ := Next_spec l s n h0 h1 hn hl
  exact ⟨decide (r = 0), Ev.bind hr (Ev.now _)⟩
end Go.EV.Pure
namespace Go.EV.Pure
open Go Go.EV Go.RowKit
set_option linter.unusedSimpArgs false
/-! Sites, the cosine, how far sites are from each other. -/
theorem tmod_neg {a n : Int} (h : a ≤ 0) : a.tmod n = -((-a) % n) := by
  have h1 := Int.neg_tmod (-a) n
  rw [Int.neg_neg] at h1
  rw [h1, Int.tmod_eq_emod_of_nonneg (by omega)]
theorem tdiv_neg {a n : Int} (h : a ≤ 0) : a.tdiv n = -((-a) / n) := by
  have h1 := Int.neg_tdiv (-a) n
  rw [Int.neg_neg] at h1
  rw [h1, Int.tdiv_eq_ediv_of_nonneg (by omega)]
theorem Outside_eq (a lo hi : Int) : kit_Outside.f a lo hi = some (decide (a < lo ∨ hi < a)) := by
  unfold kit_Outside.f
  split <;> simp [*]
theorem in_eq (a lo hi : Int) : pileref1_in.f a lo hi = some (decide (lo ≤ a ∧ a ≤ hi)) := by
  unfold pileref1_in.f
  split <;> simp [*]
theorem CheckSite_eq (n e : Int) : place_CheckSite.f n e = some (if (-324000 ≤ n ∧ n ≤ 324000) ∧ -648000 ≤ e ∧ e ≤ 647999 then 0 else 1) := by
  unfold place_CheckSite.f
  rw [Outside_eq, Outside_eq]
  simp only [Option.bind_some, decide_eq_true_eq]
  by_cases h : -324000 ≤ n ∧ n ≤ 324000
  · rw [if_neg (by omega)]
    by_cases h2 : -648000 ≤ e ∧ e ≤ 647999
    · rw [if_neg (by omega), if_pos ⟨h, h2⟩]
    · rw [if_pos (by omega), if_neg (by omega)]
  · rw [if_pos (by omega), if_neg (by omega)]
theorem SiteFault_eq (n e : Int) : pileref1_SiteFault.f n e = some (if (-324000 ≤ n ∧ n ≤ 324000) ∧ -648000 ≤ e ∧ e ≤ 647999 then 0 else 1) := by
  unfold pileref1_SiteFault.f
  rw [in_eq, in_eq]
  simp only [Option.bind_some, decide_eq_true_eq]
  by_cases h : -324000 ≤ n ∧ n ≤ 324000
  · rw [if_pos h]
    by_cases h2 : -648000 ≤ e ∧ e ≤ 647999
    · rw [if_pos h2, if_pos ⟨h, h2⟩]
    · rw [if_neg h2, if_neg (by omega)]
  · rw [if_neg h, if_neg (by omega)]
theorem cosine_mod (a : Int) : Int.tmod (wrap64 (Int.tmod a 1296000 + 1296000)) 1296000 = a % 1296000 := by
  by_cases h : 0 ≤ a
  · rw [tmod_pos h, wrap_id (by omega) (by omega), tmod_pos (by omega)]; omega
  · rw [tmod_neg (a := a) (by omega), wrap_id (by omega) (by omega), tmod_pos (by omega)]; omega
theorem tdiv_bd (a n : Int) (h : 1 ≤ n) (c : Int) (h0 : -c ≤ a) (h1 : a ≤ c) : -c ≤ Int.tdiv a n ∧ Int.tdiv a n ≤ c := by
  by_cases s : 0 ≤ a
  · rw [tdiv_pos s]
    have := Int.ediv_le_self n s
    have := Int.ediv_nonneg s (show 0 ≤ n by omega)
    omega
  · rw [tdiv_neg (a := a) (by omega)]
    have := Int.ediv_le_self n (show 0 ≤ -a by omega)
    have := Int.ediv_nonneg (show 0 ≤ -a by omega) (show 0 ≤ n by omega)
    omega
/-- An angle to the east, taken around the world. -/
def aroundV (a : Int) : Int := (a + 648000) % 1296000 - 648000
theorem aroundV_bd (a : Int) : -648000 ≤ aroundV a ∧ aroundV a ≤ 647999 := by unfold aroundV; omega
theorem around_eq (a : Int) (h0 : -1099511627776 ≤ a) (h1 : a ≤ 1099511627776) : place_around.f a = some (aroundV a) := by
  unfold place_around.f aroundV
  rw [wrap_id (e := a + 648000) (by omega) (by omega)]
  have h : Int.tmod (wrap64 (Int.tmod (a + 648000) 1296000 + 1296000)) 1296000 = (a + 648000) % 1296000 := cosine_mod _
  rw [h, wrap_id (by omega) (by omega)]
/-- A site that may be. -/
def Right (n e : Int) : Prop := (-324000 ≤ n ∧ n ≤ 324000) ∧ -648000 ≤ e ∧ e ≤ 647999
theorem mul_bd (a b A B : Int) (hA : 0 ≤ A) (_hB : 0 ≤ B) (ha : -A ≤ a ∧ a ≤ A) (hb : -B ≤ b ∧ b ≤ B) : -(A * B) ≤ a * b ∧ a * b ≤ A * B := by
  have h1 : (a.natAbs : Int) ≤ A := by omega
  have h2 : (b.natAbs : Int) ≤ B := by omega
  have h3 : (a.natAbs : Int) * (b.natAbs : Int) ≤ A * B := Int.mul_le_mul h1 h2 (by omega) hA
  have h4 : ((a * b).natAbs : Int) = (a.natAbs : Int) * (b.natAbs : Int) := by rw [Int.natAbs_mul]; push_cast; rfl
  omega
theorem between_eq (an ae bn be : Int) (ha : Right an ae) (hb : Right bn be) : place_between.f an ae bn be = some (bn - an, aroundV (be - ae)) := by
  unfold Right at ha hb
  unfold place_between.f
  rw [wrap_id (e := be - ae) (by omega) (by omega), around_eq _ (by omega) (by omega), Option.bind_some, wrap_id (by omega) (by omega)]
end Go.EV.Pure
namespace Go.EV.Pure
open Go Go.EV Go.RowKit
/-! Sites that the stream makes. -/
theorem SiteOf_j (n e : Int) (l : List Int) (s : Int) : Ev (fun k => pilemake_Stream_SiteOf.j4 k n e l s) (n, e, l, s) := Ev.from 1 fun k => rfl
theorem Odd_spec (l : List Int) (s a b : Int) (h0 : 0 ≤ s) (h1 : s ≤ 4611686018427387000) (ha : -1099511627776 ≤ a) (hb : b ≤ 1099511627776) (hab : a ≤ b) (hl : l.length ≤ 140737488351232) :
    ∃ r s', Ev (fun k => pilemake_Stream_Odd.f k l s a b) (r, l, s') ∧ s ≤ s' ∧ s' ≤ s + 2 := by
  obtain ⟨f, e1⟩ := Flip_spec l s 12 h0 (by omega) (by omega) hl
  cases f with
  | true =>
    obtain ⟨r, e2, _⟩ := Pick_spec l (s + 1) [wrap64 (a - 1), wrap64 (b + 1), a, b, (-1099511627776), 1099511627776] (by omega) (by omega) hl (by simp) (by simp)
    exact ⟨r, s + 1 + 1, Ev.bind e1 (Ev.pos rfl (Ev.bind e2 (Ev.now _))), by omega, by omega⟩
  | false =>
    obtain ⟨r, e2, _⟩ := Range_spec l (s + 1) a b (by omega) (by omega) ha hb hab hl
    exact ⟨r, s + 1 + 1, Ev.bind e1 (Ev.neg Bool.false_ne_true (Ev.bind e2 (Ev.now _))), by omega, by omega⟩
theorem SiteOf_spec (l : List Int) (s : Int) (h0 : 0 ≤ s) (h1 : s ≤ 4611686018427380000) (hl : l.length ≤ 140737488351232) :
    ∃ n e s', Ev (fun k => pilemake_Stream_SiteOf.f k l s) (n, e, l, s') ∧ s ≤ s' ∧ s' ≤ s + 20 := by
  obtain ⟨r1, e1, _⟩ := Range_spec l s (-324000) 324000 (by omega) (by omega) (by omega) (by omega) (by omega) hl
  obtain ⟨r2, e2, _⟩ := Pick_spec l (s + 1) [0, 172800, 174599, (-324000), 324000, r1] (by omega) (by omega) hl (by simp) (by simp)
  obtain ⟨r3, e3, _⟩ := Range_spec l (s + 1 + 1) (-648000) 647999 (by omega) (by omega) (by omega) (by omega) (by omega) hl
  obtain ⟨r4, e4, _⟩ := Pick_spec l (s + 1 + 1 + 1) [0, 36000, (-648000), 647999, r3] (by omega) (by omega) hl (by simp) (by simp)
  obtain ⟨f, e5⟩ := Flip_spec l (s + 1 + 1 + 1 + 1) 20 (by omega) (by omega) (by omega) hl
  cases f with
  | true =>
    obtain ⟨r6, s6, e6, b6, c6⟩ := Odd_spec l (s + 1 + 1 + 1 + 1 + 1) (-324000) 324000 (by omega) (by omega) (by omega) (by omega) (by omega) hl
    obtain ⟨r7, s7, e7, b7, c7⟩ := Odd_spec l s6 (-648000) 647999 (by omega) (by omega) (by omega) (by omega) (by omega) hl
    exact ⟨r6, r7, s7, Ev.bind e1 (Ev.bind e2 (Ev.bind e3 (Ev.bind e4 (Ev.bind e5 (Ev.pos rfl (Ev.bind e6 (Ev.bind e7 (SiteOf_j _ _ _ _)))))))), by omega, by omega⟩
  | false =>
    exact ⟨r2, r4, s + 1 + 1 + 1 + 1 + 1, Ev.bind e1 (Ev.bind e2 (Ev.bind e3 (Ev.bind e4 (Ev.bind e5 (Ev.neg Bool.false_ne_true (SiteOf_j _ _ _ _)))))), by omega, by omega⟩
theorem RightSite_loop (l : List Int) (hl : l.length ≤ 140737488351232) (d : Nat) : ∀ (i s : Int), 0 ≤ i → i + d = 6 → 0 ≤ s → s + 20 * d ≤ 4611686018427370000 →
    ∃ n e s', Ev (fun k => pilemake_Stream_RightSite.l0 k i l s) (n, e, l, s') ∧ Right n e ∧ s ≤ s' ∧ s' ≤ s + 20 * d := by
  induction d with
  | zero =>
    intro i s h0 hi hs _
    refine ⟨0, 0, s, Ev.step (f := fun _ => some _) (fun k => ?_) (Ev.now _), by unfold Right; omega, by omega, by omega⟩
    simp only [pilemake_Stream_RightSite.l0]
    rw [if_neg (by omega)]
  | succ d ih =>
    intro i s h0 hi hs h1
    obtain ⟨n, e, s', e1, b1, c1⟩ := SiteOf_spec l s hs (by omega) hl
    by_cases c : Right n e
    · refine ⟨n, e, s', Ev.succ ?_, c, by omega, by omega⟩
      simp only [pilemake_Stream_RightSite.l0]
      refine Ev.pos (by omega) (Ev.bind e1 ?_)
      simp only [SiteFault_eq, Option.bind_some]
      unfold Right at c
      exact Ev.pos (if_pos c) (Ev.now _)
    · obtain ⟨n2, e2, s2, e3, b2, c2, c3⟩ := ih (i + 1) s' (by omega) (by omega) (by omega) (by omega)
      refine ⟨n2, e2, s2, Ev.succ ?_, b2, by omega, by omega⟩
      simp only [pilemake_Stream_RightSite.l0, wrap_id (e := i + 1) (by omega) (by omega)]
      refine Ev.pos (by omega) (Ev.bind e1 ?_)
      simp only [SiteFault_eq, Option.bind_some]
      unfold Right at c
      exact Ev.neg (by rw [if_neg c]; omega) e3
theorem RightSite_spec (l : List Int) (s : Int) (h0 : 0 ≤ s) (h1 : s ≤ 4611686018427360000) (hl : l.length ≤ 140737488351232) :
    ∃ n e s', Ev (fun k => pilemake_Stream_RightSite.f k l s) (n, e, l, s') ∧ Right n e ∧ s ≤ s' ∧ s' ≤ s + 120 := by
  obtain ⟨n, e, s', a, b, c, d⟩ := RightSite_loop l hl 6 0 s (by omega) (by omega) h0 (by omega)
  exact ⟨n, e, s', a, b, c, by omega⟩
end Go.EV.Pure
namespace Go.EV.Pure
open Go Go.EV Go.RowKit
set_option linter.unusedSimpArgs false
/-! How far sites are from each other there and back, winds, ways. -/
theorem checkBoth_eq (an ae bn be : Int) : place_checkBoth.f an ae bn be = some (if ((-324000 ≤ an ∧ an ≤ 324000) ∧ -648000 ≤ ae ∧ ae ≤ 647999) ∧ ((-324000 ≤ bn ∧ bn ≤ 324000) ∧ -648000 ≤ be ∧ be ≤ 647999) then 0 else 1) := by
  unfold place_checkBoth.f
  rw [CheckSite_eq]
  simp only [Option.bind_some]
  by_cases h1 : (-324000 ≤ an ∧ an ≤ 324000) ∧ -648000 ≤ ae ∧ ae ≤ 647999
  · rw [if_pos h1, if_pos rfl, CheckSite_eq]
    by_cases h2 : (-324000 ≤ bn ∧ bn ≤ 324000) ∧ -648000 ≤ be ∧ be ≤ 647999
    · rw [if_pos h2, if_pos ⟨h1, h2⟩]; rfl
    · rw [if_neg h2, if_neg (fun h => h2 h.2)]; rfl
  · rw [if_neg h1, if_neg (by omega), if_neg (fun h => h1 h.1)]
/-- The sites of a way. -/
def wayP (an ae dn de p : Int) (i : Nat) : Int × Int := (an + Int.tdiv (dn * i) p, aroundV (ae + Int.tdiv (de * i) p))
theorem part_bd (d p : Int) (i : Nat) (hp : 1 ≤ p) (hi : (i : Int) ≤ p) : (0 ≤ d → 0 ≤ Int.tdiv (d * i) p ∧ Int.tdiv (d * i) p ≤ d) ∧ (d ≤ 0 → d ≤ Int.tdiv (d * i) p ∧ Int.tdiv (d * i) p ≤ 0) := by
  have key : ∀ d : Int, 0 ≤ d → 0 ≤ d * i / p ∧ d * i / p ≤ d := fun d hd => by
    have h0 : 0 ≤ d * i := Int.mul_nonneg hd (by omega)
    refine ⟨Int.ediv_nonneg h0 (by omega), ?_⟩
    have h1 : d * i ≤ d * p := Int.mul_le_mul_of_nonneg_left hi hd
    have := Int.ediv_le_ediv (a := d * i) (b := d * p) (c := p) (by omega) h1
    rwa [Int.mul_ediv_cancel _ (by omega)] at this
  constructor
  · intro hd
    rw [tdiv_pos (Int.mul_nonneg hd (by omega))]
    exact key d hd
  · intro hd
    have h := key (-d) (by omega)
    rw [Int.neg_mul] at h
    have h0 : 0 ≤ -(d * i) := by rw [← Int.neg_mul]; exact Int.mul_nonneg (by omega) (by omega)
    rw [tdiv_neg (by omega)]
    omega
theorem wayP_ok (an ae bn be p : Int) (ha : Right an ae) (hb : Right bn be) (hp : 1 ≤ p) (i : Nat) (hi : (i : Int) ≤ p) : Right (wayP an ae (bn - an) (aroundV (be - ae)) p i).1 (wayP an ae (bn - an) (aroundV (be - ae)) p i).2 := by
  have h := part_bd (bn - an) p i hp hi
  have h2 := aroundV_bd (ae + Int.tdiv (aroundV (be - ae) * i) p)
  unfold Right at *
  unfold wayP
  simp only
  by_cases c : 0 ≤ bn - an
  · have := h.1 c; omega
  · have := h.2 (by omega); omega
theorem wayP_first (an ae bn be p : Int) (ha : Right an ae) : wayP an ae (bn - an) (aroundV (be - ae)) p 0 = (an, ae) := by
  unfold wayP Right aroundV at *
  simp
  omega
theorem wayP_last (an ae bn be : Int) (p : Nat) (hp : 1 ≤ p) (ha : Right an ae) (hb : Right bn be) : wayP an ae (bn - an) (aroundV (be - ae)) p p = (bn, be) := by
  unfold wayP
  rw [Int.mul_tdiv_cancel _ (by omega), Int.mul_tdiv_cancel _ (by omega)]
  unfold Right aroundV at *
  refine Prod.ext (by simp only; omega) (by simp only; omega)
end Go.EV.Pure
namespace Go.EV.Pure
open Go Go.EV Go.RowKit
set_option maxRecDepth 100000
theorem ready_ev : Ev (fun k => pilekeep1_ready.f k) true := Ev.from 300 fun k => (by kernel_rfl : pilekeep1_ready.f (k + 300) = some true)
end Go.EV.Pure
namespace Go.EV.Pure
open Go Go.EV Go.RowKit
theorem Way_run (an ae bn be : Int) (p : Nat) (ha : Right an ae) (hb : Right bn be) (hp : 1 ≤ p ∧ p ≤ 9) (d : Nat) : ∀ i : Nat, i + d = p + 1 →
    Ev (fun k => place_Way.l0 k an ae (p : Int) (bn - an) (aroundV (be - ae)) (i : Int) ((List.range i).map (wayP an ae (bn - an) (aroundV (be - ae)) p))) ((List.range (p + 1)).map (wayP an ae (bn - an) (aroundV (be - ae)) p), 0) := by
  have hr := aroundV_bd (be - ae)
  have ha' := ha
  have hb' := hb
  unfold Right at ha' hb'
  have hw : wrap64 ((p : Int) + 1) = ((p + 1 : Nat) : Int) := wrap_succ (by omega)
  induction d with
  | zero =>
    intro i hi
    obtain rfl : i = p + 1 := by omega
    refine Ev.step (f := fun _ => some _) (fun k => ?_) (Ev.now _)
    simp only [place_Way.l0, hw]
    rw [if_neg (by omega)]
  | succ d ih =>
    intro i hi
    have m1 := mul_bd (aroundV (be - ae)) i 648000 1000 (by omega) (by omega) (by omega) (by omega)
    have m2 := mul_bd (bn - an) i 648000 1000 (by omega) (by omega) (by omega) (by omega)
    have t1 := tdiv_bd (aroundV (be - ae) * i) p (by omega) 648000000 (by omega) (by omega)
    have t2 := tdiv_bd ((bn - an) * i) p (by omega) 648000000 (by omega) (by omega)
    refine Ev.step (fun k => ?_) (ih (i + 1) (by omega))
    simp only [place_Way.l0, hw]
    rw [if_pos (by omega), if_neg (by omega), if_neg (by omega), wrap_id (e := aroundV (be - ae) * i) (by omega) (by omega), wrap_id (e := Int.tdiv (aroundV (be - ae) * i) p) (by omega) (by omega), wrap_id (e := ae + Int.tdiv (aroundV (be - ae) * i) p) (by omega) (by omega), around_eq _ (by omega) (by omega), Option.bind_some, if_pos (by simp; omega), wrap_id (e := (bn - an) * i) (by omega) (by omega), wrap_id (e := Int.tdiv ((bn - an) * i) p) (by omega) (by omega), wrap_id (e := an + Int.tdiv ((bn - an) * i) p) (by omega) (by omega), wrap_succ (by omega), List.range_succ, List.map_append]
    rfl
theorem Way_spec (an ae bn be : Int) (p : Nat) (ha : Right an ae) (hb : Right bn be) (hp : 1 ≤ p ∧ p ≤ 9) :
    Ev (fun k => place_Way.f k an ae bn be (p : Int)) ((List.range (p + 1)).map (wayP an ae (bn - an) (aroundV (be - ae)) p), 0) := by
  unfold place_Way.f
  simp only [checkBoth_eq, Option.bind_some, Outside_eq, between_eq an ae bn be ha hb]
  exact Ev.pos (if_pos ⟨ha, hb⟩) (Ev.neg (by simp; omega) (Way_run an ae bn be p ha hb hp (p + 1) 0 (by omega)))
theorem WaysBeginAndEnd (l : List Int) (hl : l.length ≤ 140737488351232) : ∃ k, pilekeep1_WaysBeginAndEnd.f k l = some true := by
  obtain ⟨an, ae, s, e1, ha, b1, c1⟩ := RightSite_spec l 0 (by omega) (by omega) hl
  obtain ⟨bn, be, s2, e2, hb, b2, c2⟩ := RightSite_spec l s (by omega) (by omega) hl
  obtain ⟨q, e3, q0, q1⟩ := Range_spec l s2 1 9 (by omega) (by omega) (by omega) (by omega) (by omega) hl
  obtain ⟨p, rfl⟩ : ∃ p : Nat, q = p := ⟨q.toNat, by omega⟩
  have e4 := Way_spec an ae bn be p ha hb (by omega)
  have hR : Ev (fun k => (pilekeep1_ready.f k).bind fun r => Option.some r) true := Ev.bind ready_ev (Ev.now _)
  have f0 := wayP_first an ae bn be p ha
  have f1 := wayP_last an ae bn be p (by omega) ha hb
  have hok := fun i hi => wayP_ok an ae bn be p ha hb (by omega) i hi
  generalize hW : (List.range (p + 1)).map (wayP an ae (bn - an) (aroundV (be - ae)) p) = W at e4
  have hlen : W.length = p + 1 := by rw [← hW]; simp
  have hget : ∀ (i : Nat) (h : i < W.length), W[i] = wayP an ae (bn - an) (aroundV (be - ae)) p i := fun i h => by subst hW; simp
  obtain ⟨v, rfl, hv⟩ := loop W (fun k i (_ : Unit) => pilekeep1_WaysBeginAndEnd.l0 k W (W.length : Int) i) (fun _ _ => True) (fun v => v = true)
    (fun i _ hi _ => .inl ⟨(), trivial, fun v hv => Ev.step (fun k => by
      have h := hok i (by omega)
      rw [← hget i hi] at h
      unfold Right at h
      simp only [pilekeep1_WaysBeginAndEnd.l0]
      rw [if_pos (by omega), if_pos (by omega), if_pos (by omega), rdE_get e_II W i hi, CheckSite_eq, if_pos h, Option.bind_some, if_pos rfl, wrap_succ (by omega)]) hv⟩)
    (fun _ _ => ⟨true, rfl, Ev.succ (by
      simp only [pilekeep1_WaysBeginAndEnd.l0]
      exact Ev.neg (by omega) hR)⟩) 0 () (by omega) trivial
  have g0 : rdE e_II W 0 = (an, ae) := by
    have := rdE_get e_II W 0 (by omega)
    rw [hget 0 (by omega)] at this
    rw [← f0]; exact this
  have g1 : rdE e_II W (p : Int) = (bn, be) := by
    rw [rdE_get e_II W p (by omega), hget p (by omega), f1]
  refine (Ev.bind e1 (Ev.bind e2 (Ev.bind e3 (Ev.bind e4 (Ev.pos rfl (Ev.pos (by rw [wrap_succ (by omega), hlen]) (Ev.pos (by simp only; omega) (Ev.pos (by simp [g0]) (Ev.pos (by simp only; omega) (Ev.pos (by simp only; omega) (Ev.pos (by simp [g1]) hv))))))))))).ex
end Go.EV.Pure
