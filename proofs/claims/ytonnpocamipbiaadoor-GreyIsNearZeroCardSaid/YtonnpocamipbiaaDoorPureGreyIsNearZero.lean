/- The plain law: the Lean functions answer true for every list. -/
import Derived.Test.YtonnpocamipbiaaDoorXGreyIsNearZero
import Derived.KernelRfl
set_option linter.unusedVariables false
set_option linter.unusedSimpArgs false
/-! Plain laws that all statements use: numbers that don't wrap, functions with fuel, loops over lists, the stream's draws. -/
namespace Go.EV.Pure
open Go Go.EV Go.RowKit
theorem wrap_id {e : Int} (h1 : -9223372036854775808 ≤ e) (h2 : e ≤ 9223372036854775807) : wrap64 e = e := by
  unfold wrap64
  omega
theorem tmod_pos {a n : Int} (h : 0 ≤ a) : a.tmod n = a % n := Int.tmod_eq_emod_of_nonneg h
theorem tdiv_pos {a n : Int} (h : 0 ≤ a) : a.tdiv n = a / n := Int.tdiv_eq_ediv_of_nonneg h
theorem mn_eq (a b : Int) : mn a b = if b < a then b else a := rfl
theorem rdE_get {α : Type} (E : Enc α) (l : List α) (i : Nat) (h : i < l.length) : rdE E l (i : Int) = l[i] := by
  simp [rdE, List.getD, List.getElem?_eq_getElem h]
theorem rd_mem (l : List Int) (i : Int) (h0 : 0 ≤ i) (h1 : i < l.length) : rd l i ∈ l := by
  have h : i.toNat < l.length := by omega
  have : rd l i = l[i.toNat] := by simp [rd, List.getD, List.getElem?_eq_getElem h]
  rw [this]
  exact List.getElem_mem h
theorem wrap_succ {i : Nat} (h : i ≤ 1000000000000000) : wrap64 ((i : Int) + 1) = ((i + 1 : Nat) : Int) := by rw [wrap_id (by omega) (by omega)]; omega

/-- From some fuel on the function answers v. -/
def Ev {α : Type} (f : Nat → Option α) (v : α) : Prop := ∃ K, ∀ k, K ≤ k → f k = some v
section
variable {α β : Type}
theorem Ev.now (v : α) : Ev (fun _ => some v) v := ⟨0, fun _ _ => rfl⟩
theorem Ev.of {f : Nat → Option α} {v : α} (h : ∀ k, f k = some v) : Ev f v := ⟨0, fun k _ => h k⟩
theorem Ev.from {f : Nat → Option α} {v : α} (n : Nat) (h : ∀ k, f (k + n) = some v) : Ev f v := ⟨n, fun k hk => by
  obtain ⟨m, rfl⟩ : ∃ m, k = m + n := ⟨k - n, by omega⟩
  exact h m⟩
theorem Ev.bind {f : Nat → Option α} {a : α} {g : Nat → α → Option β} {v : β} (h : Ev f a) (h2 : Ev (fun k => g k a) v) : Ev (fun k => (f k).bind (g k)) v := by
  obtain ⟨K, h⟩ := h
  obtain ⟨K2, h2⟩ := h2
  exact ⟨max K K2, fun k hk => by show (f k).bind (g k) = some v; rw [h k (by omega)]; exact h2 k (by omega)⟩
theorem Ev.step {g f : Nat → Option α} {v : α} (h : ∀ k, g (k + 1) = f k) (h2 : Ev f v) : Ev g v := by
  obtain ⟨K, h2⟩ := h2
  exact ⟨K + 1, fun k hk => by
    obtain ⟨m, rfl⟩ : ∃ m, k = m + 1 := ⟨k - 1, by omega⟩
    rw [h m]; exact h2 m (by omega)⟩
theorem Ev.succ {g : Nat → Option α} {v : α} (h : Ev (fun k => g (k + 1)) v) : Ev g v := Ev.step (fun _ => rfl) h
theorem Ev.ex {f : Nat → Option α} {v : α} (h : Ev f v) : ∃ k, f k = some v := let ⟨K, h⟩ := h; ⟨K, h K (Nat.le_refl _)⟩
theorem Ev.ite {p : Prop} [Decidable p] {f g : Nat → Option α} {v : α} (h1 : p → Ev f v) (h2 : ¬ p → Ev g v) : Ev (fun k => if p then f k else g k) v := by
  by_cases c : p
  · simp only [if_pos c]; exact h1 c
  · simp only [if_neg c]; exact h2 c
theorem Ev.pos {p : Prop} [Decidable p] {f g : Nat → Option α} {v : α} (c : p) (h1 : Ev f v) : Ev (fun k => if p then f k else g k) v := by simp only [if_pos c]; exact h1
theorem Ev.neg {p : Prop} [Decidable p] {f g : Nat → Option α} {v : α} (c : ¬ p) (h1 : Ev g v) : Ev (fun k => if p then f k else g k) v := by simp only [if_neg c]; exact h1

/-- A loop over a list by its index: what holds of its state carries over each round, or the round is the last one. -/
theorem loop {σ ρ : Type} (l : List α) (F : Nat → Int → σ → Option ρ) (I : Nat → σ → Prop) (post : ρ → Prop)
    (hstep : ∀ (i : Nat) (s : σ), i < l.length → I i s → (∃ s', I (i + 1) s' ∧ ∀ v, Ev (fun k => F k ((i + 1 : Nat) : Int) s') v → Ev (fun k => F k (i : Int) s) v) ∨ ∃ v, post v ∧ Ev (fun k => F k (i : Int) s) v)
    (hend : ∀ s, I l.length s → ∃ v, post v ∧ Ev (fun k => F k (l.length : Int) s) v) :
    ∀ (i : Nat) (s : σ), i ≤ l.length → I i s → ∃ v, post v ∧ Ev (fun k => F k (i : Int) s) v := by
  intro i
  generalize hd : l.length - i = d
  induction d generalizing i with
  | zero =>
    intro s hi hI
    obtain rfl : i = l.length := by omega
    exact hend s hI
  | succ d ih =>
    intro s hi hI
    rcases hstep i s (by omega) hI with ⟨s', h1, h2⟩ | h
    · obtain ⟨v, h3, h4⟩ := ih (i + 1) (by omega) s' (by omega) h1
      exact ⟨v, h3, h2 v h4⟩
    · exact h
end
end Go.EV.Pure
namespace Go.EV.Pure
open Go Go.EV Go.RowKit
theorem Below_j (x : Int) : Ev (fun k => pilemake_Below.j6 k x) x := Ev.from 1 fun k => rfl
theorem Below_spec (x n : Int) (hn : n ≤ 9223372036854775807) : ∃ r, Ev (fun k => pilemake_Below.f k x n) r ∧ 0 ≤ r ∧ (1 ≤ n → r < n) ∧ (n < 1 → r = 0) := by
  unfold pilemake_Below.f
  by_cases h : n < 1
  · simp only [if_pos h]
    exact ⟨0, Ev.now _, by omega, by omega, fun _ => rfl⟩
  · simp only [if_neg h, if_neg (show ¬ n = 0 by omega)]
    have hm := Int.natAbs_tmod x n
    have hm2 := Nat.mod_lt x.natAbs (show n.natAbs > 0 by omega)
    have h1 : x.tmod n < n := by omega
    have h2 : -n < x.tmod n := by omega
    by_cases h3 : x.tmod n < 0
    · simp only [if_pos h3]
      refine ⟨_, Below_j _, ?_, ?_, ?_⟩ <;> rw [wrap_id (by omega) (by omega)] <;> omega
    · simp only [if_neg h3]
      exact ⟨_, Below_j _, by omega, by omega, by omega⟩
theorem Next_spec (l : List Int) (s n : Int) (h0 : 0 ≤ s) (h1 : s ≤ 4611686018427387904) (hn : n ≤ 9223372036854775807) (hl : l.length ≤ 140737488351232) :
    ∃ r, Ev (fun k => pilemake_Stream_Next.f k l s n) (r, l, s + 1) ∧ 0 ≤ r ∧ (1 ≤ n → r < n) := by
  unfold pilemake_Stream_Next.f
  have hs : wrap64 (s + 1) = s + 1 := wrap_id (by omega) (by omega)
  have hs2 : wrap64 (s + 1 - 1) = s := by rw [wrap_id (by omega) (by omega)]; omega
  simp only [hs, hs2]
  by_cases h : (l.length : Int) = 0
  · simp only [if_pos h]
    obtain ⟨r, hr, r0, r1, _⟩ := Below_spec (wrap64 ((s + 1) * 7919)) n hn
    exact ⟨r, Ev.bind hr (Ev.now _), r0, r1⟩
  · have e : Int.tmod s (l.length : Int) = s % (l.length : Int) := Int.tmod_eq_emod_of_nonneg h0
    have m0 : 0 ≤ s % (l.length : Int) := Int.emod_nonneg _ h
    have m1 : s % (l.length : Int) < (l.length : Int) := Int.emod_lt_of_pos _ (by omega)
    simp only [if_neg h, e, if_pos m0, if_pos m1]
    obtain ⟨a, ha, _⟩ := Below_spec (rd l (s % (l.length : Int))) 1073741824 (by omega)
    obtain ⟨r, hr, r0, r1, _⟩ := Below_spec (wrap64 (a + wrap64 (wrap64 (Int.tdiv s (l.length : Int)) * wrap64 (7919 + s % (l.length : Int))))) n hn
    exact ⟨r, Ev.bind ha (Ev.bind hr (Ev.now _)), r0, r1⟩
theorem Pick_spec (l : List Int) (s : Int) (m : List Int) (h0 : 0 ≤ s) (h1 : s ≤ 4611686018427387904) (hl : l.length ≤ 140737488351232) (hm : 1 ≤ m.length) (hm2 : m.length ≤ 1000) :
    ∃ r, Ev (fun k => pilemake_Stream_Pick.f k l s m) (r, l, s + 1) ∧ r ∈ m := by
  obtain ⟨r, hr, r0, r1⟩ := Next_spec l s (m.length : Int) h0 h1 (by omega) hl
  have r2 := r1 (by omega)
  exact ⟨rd m r, Ev.bind hr (Ev.pos r0 (Ev.pos r2 (Ev.now _))), rd_mem m r r0 r2⟩
theorem Range_spec (l : List Int) (s a b : Int) (h0 : 0 ≤ s) (h1 : s ≤ 4611686018427387904) (ha : -1099511627776 ≤ a) (hb : b ≤ 1099511627776) (hab : a ≤ b) (hl : l.length ≤ 140737488351232) :
    ∃ r, Ev (fun k => pilemake_Stream_Range.f k l s a b) (r, l, s + 1) ∧ a ≤ r ∧ r ≤ b := by
  obtain ⟨r, hr, r0, r1⟩ := Next_spec l s (b - a + 1) h0 h1 (by omega) hl
  have r2 := r1 (by omega)
  refine ⟨a + r, ?_, by omega, by omega⟩
  unfold pilemake_Stream_Range.f
  rw [wrap_id (e := b - a) (by omega) (by omega), wrap_id (e := b - a + 1) (by omega) (by omega)]
  refine Ev.neg (by omega) (Ev.bind hr ?_)
  simp only [wrap_id (e := a + r) (by omega) (by omega)]
  exact Ev.now _
theorem Flip_spec (l : List Int) (s n : Int) (h0 : 0 ≤ s) (h1 : s ≤ 4611686018427387904) (hn : n ≤ 9223372036854775807) (hl : l.length ≤ 140737488351232) :
    ∃ b, Ev (fun k => pilemake_Stream_Flip.f k l s n) (b, l, s + 1) := by
  obtain ⟨r, hr, _⟩ := Next_spec l s n h0 h1 hn hl
  exact ⟨decide (r = 0), Ev.bind hr (Ev.now _)⟩
end Go.EV.Pure
namespace Go.EV.Pure
open Go Go.EV Go.RowKit
set_option linter.unusedSimpArgs false
/-! Sites, the cosine, how far sites are from each other. -/
theorem tmod_neg {a n : Int} (h : a ≤ 0) : a.tmod n = -((-a) % n) := by
  have h1 := Int.neg_tmod (-a) n
  rw [Int.neg_neg] at h1
  rw [h1, Int.tmod_eq_emod_of_nonneg (by omega)]
theorem Outside_eq (a lo hi : Int) : kit_Outside.f a lo hi = some (decide (a < lo ∨ hi < a)) := by
  unfold kit_Outside.f
  split <;> simp [*]
theorem IsMoment_eq (a : Int) : kit_IsMoment.f a = some (decide (0 ≤ a ∧ a ≤ 345686399999)) := by
  unfold kit_IsMoment.f
  rw [Outside_eq]
  simp only [Option.bind_some, Option.some.injEq]
  by_cases h : 0 ≤ a ∧ a ≤ 345686399999
  · have h1 : ¬ (a < 0 ∨ 345686399999 < a) := by omega
    simp [h, h1]
  · have h1 : a < 0 ∨ 345686399999 < a := by omega
    simp only [h, h1, decide_true, decide_false, Bool.not_true]
theorem in_eq (a lo hi : Int) : pileref1_in.f a lo hi = some (decide (lo ≤ a ∧ a ≤ hi)) := by
  unfold pileref1_in.f
  split <;> simp [*]
theorem CheckSite_eq (n e : Int) : place_CheckSite.f n e = some (if (-324000 ≤ n ∧ n ≤ 324000) ∧ -648000 ≤ e ∧ e ≤ 647999 then 0 else 1) := by
  unfold place_CheckSite.f
  rw [Outside_eq, Outside_eq]
  simp only [Option.bind_some, decide_eq_true_eq]
  by_cases h : -324000 ≤ n ∧ n ≤ 324000
  · rw [if_neg (by omega)]
    by_cases h2 : -648000 ≤ e ∧ e ≤ 647999
    · rw [if_neg (by omega), if_pos ⟨h, h2⟩]
    · rw [if_pos (by omega), if_neg (by omega)]
  · rw [if_pos (by omega), if_neg (by omega)]
theorem SiteFault_eq (n e : Int) : pileref1_SiteFault.f n e = some (if (-324000 ≤ n ∧ n ≤ 324000) ∧ -648000 ≤ e ∧ e ≤ 647999 then 0 else 1) := by
  unfold pileref1_SiteFault.f
  rw [in_eq, in_eq]
  simp only [Option.bind_some, decide_eq_true_eq]
  by_cases h : -324000 ≤ n ∧ n ≤ 324000
  · rw [if_pos h]
    by_cases h2 : -648000 ≤ e ∧ e ≤ 647999
    · rw [if_pos h2, if_pos ⟨h, h2⟩]
    · rw [if_neg h2, if_neg (by omega)]
  · rw [if_neg h, if_neg (by omega)]
/-- The cosine of an angle from 0 to a quarter. -/
def cosQ (x : Int) : Int := Int.tdiv ((419904000000 - 4 * x * x) * 1000000) (419904000000 + x * x)
/-- The cosine of any angle. -/
def cosV (a : Int) : Int :=
  if a % 1296000 > 648000 then (if 1296000 - a % 1296000 > 324000 then -(cosQ (648000 - (1296000 - a % 1296000))) else cosQ (1296000 - a % 1296000))
  else (if a % 1296000 > 324000 then -(cosQ (648000 - a % 1296000)) else cosQ (a % 1296000))
theorem sq_bd (x : Int) (h0 : 0 ≤ x) (h1 : x ≤ 324000) : 0 ≤ x * x ∧ x * x ≤ 104976000000 := by
  refine ⟨Int.mul_nonneg h0 h0, ?_⟩
  exact Int.le_trans (Int.mul_le_mul_of_nonneg_left h1 h0) (Int.mul_le_mul_of_nonneg_right h1 (by omega))
theorem cosQ_bd (x : Int) (h0 : 0 ≤ x) (h1 : x ≤ 324000) : 0 ≤ cosQ x ∧ cosQ x ≤ 1000000 := by
  obtain ⟨a, b⟩ := sq_bd x h0 h1
  have e : 4 * x * x = 4 * (x * x) := by rw [Int.mul_assoc]
  unfold cosQ
  rw [e]
  generalize x * x = q at *
  rw [tdiv_pos (by omega)]
  refine ⟨Int.ediv_nonneg (by omega) (by omega), ?_⟩
  have := Int.ediv_mul_le ((419904000000 - 4 * q) * 1000000) (b := 419904000000 + q) (by omega)
  exact Int.ediv_le_of_le_mul (by omega) (by omega)
theorem core_eq (x : Int) (h0 : 0 ≤ x) (h1 : x ≤ 324000) :
    (if (wrap64 (419904000000 + (wrap64 (x * x)))) = 0 then (none : Option Int) else (some (wrap64 (Int.tdiv (wrap64 ((wrap64 (419904000000 - (wrap64 ((wrap64 (4 * x)) * x)))) * 1000000)) (wrap64 (419904000000 + (wrap64 (x * x)))))))) = some (cosQ x) := by
  obtain ⟨a, b⟩ := sq_bd x h0 h1
  have e : 4 * x * x = 4 * (x * x) := by rw [Int.mul_assoc]
  have hb := cosQ_bd x h0 h1
  rw [wrap_id (e := 4 * x) (by omega) (by omega), wrap_id (e := x * x) (by omega) (by omega), wrap_id (e := 419904000000 + x * x) (by omega) (by omega), wrap_id (e := 4 * x * x) (by omega) (by omega), wrap_id (e := 419904000000 - 4 * x * x) (by omega) (by omega), wrap_id (e := (419904000000 - 4 * x * x) * 1000000) (by omega) (by omega), if_neg (by omega)]
  have : (Int.tdiv ((419904000000 - 4 * x * x) * 1000000) (419904000000 + x * x)) = cosQ x := rfl
  rw [this, wrap_id (by omega) (by omega)]
theorem cosine_mod (a : Int) : Int.tmod (wrap64 (Int.tmod a 1296000 + 1296000)) 1296000 = a % 1296000 := by
  by_cases h : 0 ≤ a
  · rw [tmod_pos h, wrap_id (by omega) (by omega), tmod_pos (by omega)]; omega
  · rw [tmod_neg (a := a) (by omega), wrap_id (by omega) (by omega), tmod_pos (by omega)]; omega
theorem cosine_j (x : Int) (h0 : 0 ≤ x) (h1 : x ≤ 324000) (k : Nat) : place_cosine.j4 (k + 1) x = some (cosQ x) := by
  rw [place_cosine.j4, if_neg (by omega)]
  exact core_eq x h0 h1
theorem cosine_low (x : Int) (h0 : 0 ≤ x) (h1 : x ≤ 324000) (k : Nat) : place_cosine.f (k + 2) x = some (cosQ x) := by
  rw [place_cosine.f, cosine_mod, show x % 1296000 = x by omega, if_neg (by omega)]
  exact cosine_j x h0 h1 k
theorem cosine_jj (x : Int) (h0 : 0 ≤ x) (h1 : x ≤ 648000) (k : Nat) : place_cosine.j4 (k + 3) x = some (if x > 324000 then -(cosQ (648000 - x)) else cosQ x) := by
  by_cases d : x > 324000
  · have hb := cosQ_bd (648000 - x) (by omega) (by omega)
    rw [place_cosine.j4, if_pos d, if_pos d, wrap_id (by omega) (by omega), cosine_low _ (by omega) (by omega)]
    simp only [Option.bind_some]
    rw [wrap_id (by omega) (by omega), Int.zero_sub]
  · rw [if_neg d]
    exact cosine_j x h0 (by omega) _
theorem cosine_at (a : Int) (k : Nat) : place_cosine.f (k + 4) a = some (cosV a) := by
  have m0 : 0 ≤ a % 1296000 := Int.emod_nonneg _ (by omega)
  have m1 : a % 1296000 < 1296000 := Int.emod_lt_of_pos _ (by omega)
  rw [place_cosine.f, cosine_mod]
  unfold cosV
  generalize a % 1296000 = x at *
  by_cases c : x > 648000
  · rw [if_pos c, if_pos c, wrap_id (e := 1296000 - x) (by omega) (by omega)]
    exact cosine_jj _ (by omega) (by omega) k
  · rw [if_neg c, if_neg c]
    exact cosine_jj _ (by omega) (by omega) k
theorem cosine_ev (a : Int) : Ev (fun k => place_cosine.f k a) (cosV a) := Ev.from 4 fun k => cosine_at a k
def tiltV (a : Int) : Int := wrap64 (Int.tdiv (wrap64 (84384 * cosV (wrap64 (Int.tdiv (wrap64 ((wrap64 ((Int.tmod (wrap64 (Int.tdiv a 86400000)) 365) - 171)) * 1296000)) 365)))) 1000000)
theorem tilt_ev (a : Int) : Ev (fun k => place_tilt.f k a) (tiltV a) := Ev.bind (cosine_ev _) (Ev.now _)
def sunV (n e a : Int) : Int := wrap64 ((wrap64 (Int.tdiv (wrap64 (cosV (wrap64 (n - 324000)) * cosV (wrap64 (tiltV a - 324000)))) 1000000)) + (wrap64 (Int.tdiv (wrap64 ((wrap64 (Int.tdiv (wrap64 (cosV n * cosV (tiltV a))) 1000000)) * cosV (wrap64 ((wrap64 (Int.tdiv (wrap64 ((wrap64 ((Int.tmod a 86400000) - 43200000)) * 1296000)) 86400000)) + e)))) 1000000)))
theorem sine_ev (a : Int) : Ev (fun k => place_sine.f k a) (cosV (wrap64 (a - 324000))) := Ev.bind (cosine_ev _) (Ev.now _)
theorem sun_ev (n e a : Int) : Ev (fun k => place_sun.f k n e a) (sunV n e a) := Ev.bind (tilt_ev a) (Ev.bind (sine_ev n) (Ev.bind (sine_ev _) (Ev.bind (cosine_ev n) (Ev.bind (cosine_ev _) (Ev.bind (cosine_ev _) (Ev.now _))))))
def greyV (n e a w : Int) : Bool := decide (wrap64 (0 - w) ≤ sunV n e a ∧ sunV n e a ≤ w)
theorem grey_ev (n e a w : Int) : Ev (fun k => place_grey.f k n e a w) (greyV n e a w) := by
  refine Ev.bind (sun_ev n e a) ?_
  unfold greyV
  simp only [Outside_eq, Option.bind_some]
  generalize sunV n e a = t
  have : (!decide (t < wrap64 (0 - w) ∨ w < t)) = decide (wrap64 (0 - w) ≤ t ∧ t ≤ w) := by
    by_cases h : wrap64 (0 - w) ≤ t ∧ t ≤ w
    · have h1 : ¬ (t < wrap64 (0 - w) ∨ w < t) := by omega
      rw [decide_eq_false h1, decide_eq_true h]; rfl
    · have h1 : (t < wrap64 (0 - w) ∨ w < t) := by omega
      rw [decide_eq_true h1, decide_eq_false h]; rfl
  rw [this]
  exact Ev.now _
theorem Grey_spec (n e a w : Int) (hs : (-324000 ≤ n ∧ n ≤ 324000) ∧ -648000 ≤ e ∧ e ≤ 647999) (ha : 0 ≤ a ∧ a ≤ 345686399999) (hw : 0 ≤ w ∧ w ≤ 200000) : Ev (fun k => place_Grey.f k n e a w) (greyV n e a w, 0) := by
  unfold place_Grey.f
  simp only [CheckSite_eq, IsMoment_eq, Outside_eq, Option.bind_some, if_pos hs]
  exact Ev.pos trivial (Ev.pos (decide_eq_true ha) (Ev.neg (by simp; omega) (Ev.bind (grey_ev n e a w) (Ev.now _))))
/-- A site that may be. -/
def Right (n e : Int) : Prop := (-324000 ≤ n ∧ n ≤ 324000) ∧ -648000 ≤ e ∧ e ≤ 647999
end Go.EV.Pure
namespace Go.EV.Pure
open Go Go.EV Go.RowKit
/-! Sites that the stream makes. -/
theorem SiteOf_j (n e : Int) (l : List Int) (s : Int) : Ev (fun k => pilemake_Stream_SiteOf.j4 k n e l s) (n, e, l, s) := Ev.from 1 fun k => rfl
theorem Odd_spec (l : List Int) (s a b : Int) (h0 : 0 ≤ s) (h1 : s ≤ 4611686018427387000) (ha : -1099511627776 ≤ a) (hb : b ≤ 1099511627776) (hab : a ≤ b) (hl : l.length ≤ 140737488351232) :
    ∃ r s', Ev (fun k => pilemake_Stream_Odd.f k l s a b) (r, l, s') ∧ s ≤ s' ∧ s' ≤ s + 2 := by
  obtain ⟨f, e1⟩ := Flip_spec l s 12 h0 (by omega) (by omega) hl
  cases f with
  | true =>
    obtain ⟨r, e2, _⟩ := Pick_spec l (s + 1) [wrap64 (a - 1), wrap64 (b + 1), a, b, (-1099511627776), 1099511627776] (by omega) (by omega) hl (by simp) (by simp)
    exact ⟨r, s + 1 + 1, Ev.bind e1 (Ev.pos rfl (Ev.bind e2 (Ev.now _))), by omega, by omega⟩
  | false =>
    obtain ⟨r, e2, _⟩ := Range_spec l (s + 1) a b (by omega) (by omega) ha hb hab hl
    exact ⟨r, s + 1 + 1, Ev.bind e1 (Ev.neg Bool.false_ne_true (Ev.bind e2 (Ev.now _))), by omega, by omega⟩
theorem SiteOf_spec (l : List Int) (s : Int) (h0 : 0 ≤ s) (h1 : s ≤ 4611686018427380000) (hl : l.length ≤ 140737488351232) :
    ∃ n e s', Ev (fun k => pilemake_Stream_SiteOf.f k l s) (n, e, l, s') ∧ s ≤ s' ∧ s' ≤ s + 20 := by
  obtain ⟨r1, e1, _⟩ := Range_spec l s (-324000) 324000 (by omega) (by omega) (by omega) (by omega) (by omega) hl
  obtain ⟨r2, e2, _⟩ := Pick_spec l (s + 1) [0, 172800, 174599, (-324000), 324000, r1] (by omega) (by omega) hl (by simp) (by simp)
  obtain ⟨r3, e3, _⟩ := Range_spec l (s + 1 + 1) (-648000) 647999 (by omega) (by omega) (by omega) (by omega) (by omega) hl
  obtain ⟨r4, e4, _⟩ := Pick_spec l (s + 1 + 1 + 1) [0, 36000, (-648000), 647999, r3] (by omega) (by omega) hl (by simp) (by simp)
  obtain ⟨f, e5⟩ := Flip_spec l (s + 1 + 1 + 1 + 1) 20 (by omega) (by omega) (by omega) hl
  cases f with
  | true =>
    obtain ⟨r6, s6, e6, b6, c6⟩ := Odd_spec l (s + 1 + 1 + 1 + 1 + 1) (-324000) 324000 (by omega) (by omega) (by omega) (by omega) (by omega) hl
    obtain ⟨r7, s7, e7, b7, c7⟩ := Odd_spec l s6 (-648000) 647999 (by omega) (by omega) (by omega) (by omega) (by omega) hl
    exact ⟨r6, r7, s7, Ev.bind e1 (Ev.bind e2 (Ev.bind e3 (Ev.bind e4 (Ev.bind e5 (Ev.pos rfl (Ev.bind e6 (Ev.bind e7 (SiteOf_j _ _ _ _)))))))), by omega, by omega⟩
  | false =>
    exact ⟨r2, r4, s + 1 + 1 + 1 + 1 + 1, Ev.bind e1 (Ev.bind e2 (Ev.bind e3 (Ev.bind e4 (Ev.bind e5 (Ev.neg Bool.false_ne_true (SiteOf_j _ _ _ _)))))), by omega, by omega⟩
theorem RightSite_loop (l : List Int) (hl : l.length ≤ 140737488351232) (d : Nat) : ∀ (i s : Int), 0 ≤ i → i + d = 6 → 0 ≤ s → s + 20 * d ≤ 4611686018427370000 →
    ∃ n e s', Ev (fun k => pilemake_Stream_RightSite.l0 k i l s) (n, e, l, s') ∧ Right n e ∧ s ≤ s' ∧ s' ≤ s + 20 * d := by
  induction d with
  | zero =>
    intro i s h0 hi hs _
    refine ⟨0, 0, s, Ev.step (f := fun _ => some _) (fun k => ?_) (Ev.now _), by unfold Right; omega, by omega, by omega⟩
    simp only [pilemake_Stream_RightSite.l0]
    rw [if_neg (by omega)]
  | succ d ih =>
    intro i s h0 hi hs h1
    obtain ⟨n, e, s', e1, b1, c1⟩ := SiteOf_spec l s hs (by omega) hl
    by_cases c : Right n e
    · refine ⟨n, e, s', Ev.succ ?_, c, by omega, by omega⟩
      simp only [pilemake_Stream_RightSite.l0]
      refine Ev.pos (by omega) (Ev.bind e1 ?_)
      simp only [SiteFault_eq, Option.bind_some]
      unfold Right at c
      exact Ev.pos (if_pos c) (Ev.now _)
    · obtain ⟨n2, e2, s2, e3, b2, c2, c3⟩ := ih (i + 1) s' (by omega) (by omega) (by omega) (by omega)
      refine ⟨n2, e2, s2, Ev.succ ?_, b2, by omega, by omega⟩
      simp only [pilemake_Stream_RightSite.l0, wrap_id (e := i + 1) (by omega) (by omega)]
      refine Ev.pos (by omega) (Ev.bind e1 ?_)
      simp only [SiteFault_eq, Option.bind_some]
      unfold Right at c
      exact Ev.neg (by rw [if_neg c]; omega) e3
theorem RightSite_spec (l : List Int) (s : Int) (h0 : 0 ≤ s) (h1 : s ≤ 4611686018427360000) (hl : l.length ≤ 140737488351232) :
    ∃ n e s', Ev (fun k => pilemake_Stream_RightSite.f k l s) (n, e, l, s') ∧ Right n e ∧ s ≤ s' ∧ s' ≤ s + 120 := by
  obtain ⟨n, e, s', a, b, c, d⟩ := RightSite_loop l hl 6 0 s (by omega) (by omega) h0 (by omega)
  exact ⟨n, e, s', a, b, c, by omega⟩
end Go.EV.Pure
namespace Go.EV.Pure
open Go Go.EV Go.RowKit
set_option maxRecDepth 100000
theorem ready_ev : Ev (fun k => pilekeep1_ready.f k) true := Ev.from 300 fun k => (by kernel_rfl : pilekeep1_ready.f (k + 300) = some true)
end Go.EV.Pure
namespace Go.EV.Pure
open Go Go.EV Go.RowKit
/-! Windows in which something is so, as they grow from step to step. -/
def GWin (g : Int → Bool) (fr en : Int) (q : Int × Int) : Prop := g q.1 = true ∧ fr ≤ q.1 ∧ q.1 < q.2 ∧ q.2 < en ∧ g q.2 = false
def Clo (g : Int → Bool) (fr en : Int) (L : List (Int × Int)) : Prop := (∀ q ∈ L, GWin g fr en q) ∧ L.Pairwise fun p q => p.2 < q.1
def WI (g : Int → Bool) (fr en t : Int) (b : Bool) (L : List (Int × Int)) : Prop :=
  (b = false → Clo g fr en L ∧ ∀ q ∈ L, q.2 < t) ∧
  (b = true → ∃ L' a, L = L' ++ [(a, en)] ∧ Clo g fr en L' ∧ (∀ q ∈ L', q.2 < a) ∧ g a = true ∧ fr ≤ a ∧ a < t ∧ a < en)
theorem WI.nil (g : Int → Bool) (fr en t : Int) : WI g fr en t false [] := ⟨fun _ => ⟨⟨fun q h => (by cases h), List.Pairwise.nil⟩, fun q h => (by cases h)⟩, fun h => by cases h⟩
theorem WI.same {g : Int → Bool} {fr en t t' : Int} {b : Bool} {L : List (Int × Int)} (h : WI g fr en t b L) (ht : t ≤ t') : WI g fr en t' b L := by
  refine ⟨fun hb => ?_, fun hb => ?_⟩
  · obtain ⟨h1, h2⟩ := h.1 hb
    exact ⟨h1, fun q hq => by have := h2 q hq; omega⟩
  · obtain ⟨L', a, e, h1, h2, h3, h4, h5, h6⟩ := h.2 hb
    exact ⟨L', a, e, h1, h2, h3, h4, by omega, h6⟩
theorem WI.begin {g : Int → Bool} {fr en t t' : Int} {L : List (Int × Int)} (h : WI g fr en t false L) (hg : g t = true) (h0 : fr ≤ t) (h1 : t < en) (ht : t < t') : WI g fr en t' true (L ++ [(t, en)]) := by
  refine ⟨fun hb => (by cases hb), fun _ => ?_⟩
  obtain ⟨h2, h3⟩ := h.1 rfl
  exact ⟨L, t, rfl, h2, h3, hg, h0, ht, h1⟩
theorem WI.ended {g : Int → Bool} {fr en t t' : Int} {L : List (Int × Int)} (h : WI g fr en t true L) (hg : g t = false) (h1 : t < en) (ht : t < t') :
    ∃ (n : Nat) (hn : n < L.length), L.length = n + 1 ∧ WI g fr en t' false (L.set n ((L[n]'hn).1, t)) := by
  obtain ⟨L', a, rfl, h2, h3, h4, h5, h6, h7⟩ := h.2 rfl
  refine ⟨L'.length, by simp, by simp, ?_⟩
  simp only [List.getElem_concat_length]
  rw [List.set_append_right _ _ (Nat.le_refl _)]
  simp only [Nat.sub_self, List.set_cons_zero]
  refine ⟨fun _ => ⟨⟨fun q hq => ?_, ?_⟩, fun q hq => ?_⟩, fun hb => by cases hb⟩
  · rcases List.mem_append.1 hq with hq | hq
    · exact h2.1 q hq
    · obtain rfl : q = (a, t) := by simpa using hq
      exact ⟨h4, h5, h6, h1, hg⟩
  · rw [List.pairwise_append]
    refine ⟨h2.2, List.pairwise_singleton _ _, fun p hp q hq => ?_⟩
    obtain rfl : q = (a, t) := by simpa using hq
    exact h3 p hp
  · rcases List.mem_append.1 hq with hq | hq
    · have := h3 q hq; omega
    · obtain rfl : q = (a, t) := by simpa using hq
      exact ht
theorem WI.fin {g : Int → Bool} {fr en t : Int} {b : Bool} {L : List (Int × Int)} (h : WI g fr en t b L) :
    (∀ q ∈ L, g q.1 = true ∧ fr ≤ q.1 ∧ q.1 < q.2 ∧ q.1 < en ∧ q.2 ≤ en ∧ (q.2 < en → g q.2 = false)) ∧ L.Pairwise fun p q => p.2 < q.1 := by
  cases b with
  | false =>
    obtain ⟨h1, _⟩ := h.1 rfl
    exact ⟨fun q hq => by obtain ⟨a, b, c, d, e⟩ := h1.1 q hq; exact ⟨a, b, c, by omega, by omega, fun _ => e⟩, h1.2⟩
  | true =>
    obtain ⟨L', a, rfl, h1, h2, h3, h4, h5, h6⟩ := h.2 rfl
    refine ⟨fun q hq => ?_, ?_⟩
    · rcases List.mem_append.1 hq with hq | hq
      · obtain ⟨a, b, c, d, e⟩ := h1.1 q hq; exact ⟨a, b, c, by omega, by omega, fun _ => e⟩
      · obtain rfl : q = (a, en) := by simpa using hq
        exact ⟨h3, h4, h6, h6, Int.le_refl _, fun h => absurd h (Int.lt_irrefl _)⟩
    · rw [List.pairwise_append]
      refine ⟨h1.2, List.pairwise_singleton _ _, fun p hp q hq => ?_⟩
      obtain rfl : q = (a, en) := by simpa using hq
      exact h2 p hp
end Go.EV.Pure
namespace Go.EV.Pure
open Go Go.EV Go.RowKit
theorem times_j (fr en ev n e w x : Int) (b : Bool) (L : List (Int × Int)) {v : List (Int × Int)} (hx : wrap64 (x + ev) = x + ev) (h : Ev (fun k => place_times_of_place_GreyTimes_1.l0 k fr en ev n e w b (x + ev) L) v) :
    Ev (fun k => place_times_of_place_GreyTimes_1.j11 k fr en ev n e w x b L) v := Ev.step (fun k => by simp only [place_times_of_place_GreyTimes_1.j11, hx]) h
theorem times_run (fr en ev n e w : Int) (he : 1 ≤ ev ∧ ev ≤ 86400000) (hf : 0 ≤ fr) (hen : en ≤ 345686400000) (d : Nat) : ∀ (t : Int) (b : Bool) (L : List (Int × Int)), fr ≤ t → en ≤ t + d → t ≤ en + ev → WI (fun a => greyV n e a w) fr en t b L → L.length + d ≤ 400000000000 →
    ∃ L', Ev (fun k => place_times_of_place_GreyTimes_1.l0 k fr en ev n e w b t L) L' ∧ L'.length ≤ L.length + d ∧ ∃ t' b', WI (fun a => greyV n e a w) fr en t' b' L' := by
  induction d with
  | zero =>
    intro t b L h0 h1 h2 hI hl
    refine ⟨L, Ev.step (f := fun _ => some _) (fun k => ?_) (Ev.now _), by omega, t, b, hI⟩
    simp only [place_times_of_place_GreyTimes_1.l0]
    rw [if_neg (by omega)]
  | succ d ih =>
    intro t b L h0 h1 h2 hI hl
    by_cases c : t < en
    · have hw : wrap64 (t + ev) = t + ev := wrap_id (by omega) (by omega)
      have hg : Ev (fun k => place_GreyTimes_1.f k t n e w) (greyV n e t w) := Ev.bind (grey_ev n e t w) (Ev.now _)
      generalize hgv : greyV n e t w = g at hg
      cases g with
      | true =>
        cases b with
        | true =>
          obtain ⟨L', e1, e2, e3⟩ := ih (t + ev) true L (by omega) (by omega) (by omega) (hI.same (by omega)) (by omega)
          refine ⟨L', Ev.succ ?_, by omega, e3⟩
          simp only [place_times_of_place_GreyTimes_1.l0]
          exact Ev.pos c (Ev.bind hg (Ev.pos (by trivial) (Ev.pos (by trivial) (Ev.pos (by trivial) (times_j _ _ _ _ _ _ _ _ _ hw e1)))))
        | false =>
          obtain ⟨L', e1, e2, e3⟩ := ih (t + ev) true (L ++ [(t, en)]) (by omega) (by omega) (by omega) (hI.begin hgv h0 c (by omega)) (by simp; omega)
          refine ⟨L', Ev.succ ?_, by simp at e2; omega, e3⟩
          simp only [place_times_of_place_GreyTimes_1.l0]
          exact Ev.pos c (Ev.bind hg (Ev.pos (by trivial) (Ev.neg Bool.false_ne_true (Ev.pos (by omega) (times_j _ _ _ _ _ _ _ _ _ hw e1)))))
      | false =>
        cases b with
        | true =>
          obtain ⟨m, hm, hml, hI2⟩ := hI.ended (t' := t + ev) hgv c (by omega)
          have hlen : wrap64 ((L.length : Int) - 1) = (m : Int) := by rw [wrap_id (by omega) (by omega)]; omega
          obtain ⟨L', e1, e2, e3⟩ := ih (t + ev) false (L.set m ((L[m]'hm).1, t)) (by omega) (by omega) (by omega) hI2 (by simp; omega)
          refine ⟨L', Ev.succ ?_, by simp at e2; omega, e3⟩
          simp only [place_times_of_place_GreyTimes_1.l0, hlen, rdE_get e_II L m hm, Int.toNat_natCast]
          exact Ev.pos c (Ev.bind hg (Ev.neg Bool.false_ne_true (Ev.neg Bool.false_ne_true (Ev.pos (by trivial) (Ev.pos (by omega) (Ev.pos (by omega) (times_j _ _ _ _ _ _ _ _ _ hw e1)))))))
        | false =>
          obtain ⟨L', e1, e2, e3⟩ := ih (t + ev) false L (by omega) (by omega) (by omega) (hI.same (by omega)) (by omega)
          refine ⟨L', Ev.succ ?_, by omega, e3⟩
          simp only [place_times_of_place_GreyTimes_1.l0]
          exact Ev.pos c (Ev.bind hg (Ev.neg Bool.false_ne_true (Ev.neg Bool.false_ne_true (Ev.neg Bool.false_ne_true (times_j _ _ _ _ _ _ _ _ _ hw e1)))))
    · refine ⟨L, Ev.step (f := fun _ => some _) (fun k => ?_) (Ev.now _), by omega, t, b, hI⟩
      simp only [place_times_of_place_GreyTimes_1.l0]
      rw [if_neg (by omega)]
theorem asked (fr : Int) (h : 0 ≤ fr ∧ fr ≤ 70000000000) : place_askedFault.f fr (fr + 86400000) 1800000 = some 0 := by
  unfold place_askedFault.f kit_IsWindow.f
  simp only [Outside_eq, Option.bind_some]
  have h1 : decide (fr < 0 ∨ fr + 86400000 < fr) = false := decide_eq_false (by omega)
  have h2 : decide (fr + 86400000 ≤ 345686400000) = true := decide_eq_true (by omega)
  have h3 : decide ((1800000 : Int) < 1000 ∨ (86400000 : Int) < 1800000) = false := decide_eq_false (by omega)
  simp only [h1, h2, h3, Bool.false_eq_true, if_false, if_true, Option.bind_some]
  rw [if_neg (by omega), wrap_id (e := fr + 86400000 - fr) (by omega) (by omega), show fr + 86400000 - fr = 86400000 by omega, if_neg (by decide +kernel)]
theorem GreyTimes_spec (n e fr w : Int) (hs : Right n e) (h : 0 ≤ fr ∧ fr ≤ 70000000000) (hw : 0 ≤ w ∧ w ≤ 200000) :
    ∃ L, Ev (fun k => place_GreyTimes.f k n e fr (fr + 86400000) 1800000 w) (L, 0) ∧ L.length ≤ 86400000 ∧ (∀ q ∈ L, greyV n e q.1 w = true ∧ fr ≤ q.1 ∧ q.1 < q.2 ∧ q.1 < fr + 86400000 ∧ q.2 ≤ fr + 86400000 ∧ (q.2 < fr + 86400000 → greyV n e q.2 w = false)) ∧ L.Pairwise fun p q => p.2 < q.1 := by
  obtain ⟨L, e1, e2, t', b', e3⟩ := times_run fr (fr + 86400000) 1800000 n e w (by omega) h.1 (by omega) 86400000 fr false [] (by omega) (by omega) (by omega) (WI.nil _ _ _ _) (by simp)
  obtain ⟨f1, f2⟩ := e3.fin
  refine ⟨L, ?_, by simpa using e2, f1, f2⟩
  unfold place_GreyTimes.f
  simp only [CheckSite_eq, asked fr h, Outside_eq, Option.bind_some]
  unfold Right at hs
  exact Ev.pos (if_pos hs) (Ev.pos (by trivial) (Ev.neg (by simp; omega) (Ev.bind (f := fun k => place_times_of_place_GreyTimes_1.l0 k fr (fr + 86400000) 1800000 n e w false fr []) e1 (Ev.now _))))
theorem Light_j (n e fr en ev x a : Int) {v : Int × Int} (hx : wrap64 (x + ev) = x + ev) (h : Ev (fun k => place_Light.l0 k n e fr en ev a (x + ev)) v) : Ev (fun k => place_Light.j10 k n e fr en ev x a) v := Ev.step (fun k => by simp only [place_Light.j10, hx]) h
theorem Light_loop (n e fr en ev : Int) (he : 1 ≤ ev ∧ ev ≤ 86400000) (hf : 0 ≤ fr) (hen : fr ≤ en ∧ en ≤ 345686400000) (d : Nat) : ∀ (t a : Int), fr ≤ t → en ≤ t + d → t ≤ en + ev → 0 ≤ a → a ≤ t - fr →
    ∃ r, Ev (fun k => place_Light.l0 k n e fr en ev a t) (r, 0) ∧ 0 ≤ r ∧ r ≤ en - fr := by
  have hend : ∀ (t a : Int), ¬ t < en → 0 ≤ a → ∃ r, Ev (fun k => place_Light.l0 k n e fr en ev a t) (r, 0) ∧ 0 ≤ r ∧ r ≤ en - fr := fun t a c ha => by
    refine ⟨mn a (en - fr), Ev.step (f := fun _ => some _) (fun k => ?_) (Ev.now _), ?_, ?_⟩
    · simp only [place_Light.l0]
      rw [if_neg c, wrap_id (by omega) (by omega)]
    · rw [mn_eq]; split <;> omega
    · rw [mn_eq]; split <;> omega
  induction d with
  | zero => exact fun t a h0 h1 _ ha _ => hend t a (by omega) ha
  | succ d ih =>
    intro t a h0 h1 h2 ha hb
    by_cases c : t < en
    · have hw : wrap64 (t + ev) = t + ev := wrap_id (by omega) (by omega)
      by_cases s : sunV n e t > 0
      · obtain ⟨r, e1, e2⟩ := ih (t + ev) (a + ev) (by omega) (by omega) (by omega) (by omega) (by omega)
        refine ⟨r, Ev.succ ?_, e2⟩
        simp only [place_Light.l0, wrap_id (e := a + ev) (by omega) (by omega)]
        exact Ev.pos c (Ev.bind (sun_ev n e t) (Ev.pos s (Light_j _ _ _ _ _ _ _ hw e1)))
      · obtain ⟨r, e1, e2⟩ := ih (t + ev) a (by omega) (by omega) (by omega) (by omega) (by omega)
        refine ⟨r, Ev.succ ?_, e2⟩
        simp only [place_Light.l0]
        exact Ev.pos c (Ev.bind (sun_ev n e t) (Ev.neg s (Light_j _ _ _ _ _ _ _ hw e1)))
    · exact hend t a c ha
theorem Light_spec (n e fr : Int) (hs : Right n e) (h : 0 ≤ fr ∧ fr ≤ 70000000000) : ∃ r, Ev (fun k => place_Light.f k n e fr (fr + 86400000) 1800000) (r, 0) ∧ 0 ≤ r ∧ r ≤ 86400000 := by
  obtain ⟨r, e1, e2, e3⟩ := Light_loop n e fr (fr + 86400000) 1800000 (by omega) h.1 (by omega) 86400000 fr 0 (by omega) (by omega) (by omega) (by omega) (by omega)
  refine ⟨r, ?_, e2, by omega⟩
  unfold place_Light.f
  simp only [CheckSite_eq, asked fr h, Option.bind_some]
  unfold Right at hs
  exact Ev.pos (if_pos hs) (Ev.pos (by trivial) e1)
theorem SkyTime_spec (l : List Int) (s : Int) (h0 : 0 ≤ s) (h1 : s ≤ 4611686018427380000) (hl : l.length ≤ 140737488351232) :
    ∃ t s', Ev (fun k => pilemake_Stream_SkyTime.f k l s) (t, l, s') ∧ 0 ≤ t ∧ t ≤ 70000000000 ∧ s ≤ s' ∧ s' ≤ s + 3 := by
  obtain ⟨r1, e1, a1, b1⟩ := Range_spec l s 0 800 (by omega) (by omega) (by omega) (by omega) (by omega) hl
  obtain ⟨r2, e2, a2, b2⟩ := Next_spec l (s + 1) 86400000 (by omega) (by omega) (by omega) hl
  obtain ⟨r3, e3, m3⟩ := Pick_spec l (s + 1 + 1) [0, 21600000, 43200000, r2] (by omega) (by omega) hl (by simp) (by simp)
  have b2 := b2 (by omega)
  have hr3 : 0 ≤ r3 ∧ r3 ≤ 86400000 := by
    simp only [List.mem_cons, List.not_mem_nil, or_false] at m3
    omega
  refine ⟨r1 * 86400000 + r3, s + 1 + 1 + 1, Ev.bind e1 (Ev.bind e2 (Ev.bind e3 ?_)), by omega, by omega, by omega, by omega⟩
  simp only
  rw [wrap_id (e := r1 * 86400000) (by omega) (by omega), wrap_id (e := r1 * 86400000 + r3) (by omega) (by omega)]
  exact Ev.now _
theorem GreyIsNearZero (l : List Int) (hl : l.length ≤ 140737488351232) : ∃ k, pilekeep1_GreyIsNearZero.f k l = some true := by
  obtain ⟨n, e, s, e1, hs, b1, c1⟩ := RightSite_spec l 0 (by omega) (by omega) hl
  obtain ⟨fr, s2, e2, f0, f1, b2, c2⟩ := SkyTime_spec l s (by omega) (by omega) hl
  obtain ⟨w, e3, m3⟩ := Pick_spec l s2 [50000, 150000] (by omega) (by omega) hl (by simp) (by simp)
  have hw : 0 ≤ w ∧ w ≤ 200000 := by
    simp only [List.mem_cons, List.not_mem_nil, or_false] at m3
    omega
  obtain ⟨G, e4, hlen, hG, hP⟩ := GreyTimes_spec n e fr w hs ⟨f0, f1⟩ hw
  obtain ⟨r, e5, r0, r1⟩ := Light_spec n e fr hs ⟨f0, f1⟩
  have hR : Ev (fun k => (pilekeep1_ready.f k).bind fun r => Option.some r) true := Ev.bind ready_ev (Ev.now _)
  have hs' := hs
  unfold Right at hs'
  obtain ⟨v, rfl, hv⟩ := loop G (fun k i (_ : Unit) => pilekeep1_GreyIsNearZero.l0 k w G G (G.length : Int) i n e fr (fr + 86400000)) (fun _ _ => True) (fun v => v = true)
    (fun i _ hi _ => .inl ⟨(), trivial, fun v hv => Ev.succ (by
      obtain ⟨g1, g2, g3, g4, g5, g6⟩ := hG _ (List.getElem_mem hi)
      have hj : Ev (fun k => pilekeep1_GreyIsNearZero.j18 k w G G (G.length : Int) (i : Int) n e fr (fr + 86400000)) v := Ev.step (fun k => by simp only [pilekeep1_GreyIsNearZero.j18]; rw [wrap_succ (by omega)]) hv
      have q1 := Grey_spec n e G[i].1 w hs' (by omega) hw
      rw [g1] at q1
      have hq : Ev (fun k => if G[i].2 < fr + 86400000 then (place_Grey.f k n e G[i].2 w).bind fun r11 => (if r11.2 = 0 then (if r11.1 = true then Option.some false else pilekeep1_GreyIsNearZero.j18 k w G G (G.length : Int) (i : Int) n e fr (fr + 86400000)) else Option.some false) else pilekeep1_GreyIsNearZero.j18 k w G G (G.length : Int) (i : Int) n e fr (fr + 86400000)) v := by
        refine Ev.ite (fun c => ?_) (fun _ => hj)
        have q2 := Grey_spec n e G[i].2 w hs' (by omega) hw
        rw [g6 c] at q2
        exact Ev.bind q2 (Ev.pos (by trivial) (Ev.neg Bool.false_ne_true hj))
      simp only [pilekeep1_GreyIsNearZero.l0, rdE_get e_II G i hi]
      refine Ev.pos (by omega) (Ev.pos (by omega) (Ev.pos (by omega) (Ev.bind q1 (Ev.pos (by trivial) (Ev.pos (by trivial) (Ev.neg (by omega) ?_))))))
      by_cases c : i = 0
      · exact Ev.neg (by omega) hq
      · obtain ⟨j, rfl⟩ : ∃ j, i = j + 1 := ⟨i - 1, by omega⟩
        have hj1 : wrap64 (((j + 1 : Nat) : Int) - 1) = (j : Int) := by rw [wrap_id (by omega) (by omega)]; omega
        have hlt := List.pairwise_iff_getElem.1 hP j (j + 1) (by omega) hi (by omega)
        simp only [hj1, rdE_get e_II G j (by omega)]
        exact Ev.pos (by omega) (Ev.pos (by omega) (Ev.pos (by omega) (Ev.neg (by omega) hq))))⟩)
    (fun _ _ => ⟨true, rfl, Ev.succ (by
      simp only [pilekeep1_GreyIsNearZero.l0]
      exact Ev.neg (by omega) hR)⟩) 0 () (by omega) trivial
  refine (Ev.bind e1 (Ev.bind e2 (Ev.bind e3 ?_))).ex
  simp only [wrap_id (e := fr + 86400000) (by omega) (by omega)]
  exact Ev.bind e4 (Ev.bind e5 (Ev.pos (by trivial) (Ev.pos (by trivial) (Ev.neg (by simp only; omega) (Ev.neg (by simp only; omega) hv)))))
end Go.EV.Pure
