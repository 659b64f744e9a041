/- The plain law: the Lean functions answer true for every list. -/
import Derived.Test.YtonnpocamipbiaaDoorXDistancesAreEqual
import Derived.KernelRfl
set_option linter.unusedVariables false
set_option linter.unusedSimpArgs false
/-! Plain laws that all statements use: numbers that don't wrap, functions with fuel, loops over lists, the stream's draws. -/
namespace Go.EV.Pure
open Go Go.EV Go.RowKit
theorem wrap_id {e : Int} (h1 : -9223372036854775808 ≤ e) (h2 : e ≤ 9223372036854775807) : wrap64 e = e := by
  unfold wrap64
  omega
theorem tmod_pos {a n : Int} (h : 0 ≤ a) : a.tmod n = a % n := Int.tmod_eq_emod_of_nonneg h
theorem tdiv_pos {a n : Int} (h : 0 ≤ a) : a.tdiv n = a / n := Int.tdiv_eq_ediv_of_nonneg h
theorem mx_eq (a b : Int) : mx a b = if a < b then b else a := rfl
theorem rd_mem (l : List Int) (i : Int) (h0 : 0 ≤ i) (h1 : i < l.length) : rd l i ∈ l := by
  have h : i.toNat < l.length := by omega
  have : rd l i = l[i.toNat] := by simp [rd, List.getD, List.getElem?_eq_getElem h]
  rw [this]
  exact List.getElem_mem h
/-- From some fuel on the function answers v. -/
def Ev {α : Type} (f : Nat → Option α) (v : α) : Prop := ∃ K, ∀ k, K ≤ k → f k = some v
section
variable {α β : Type}
theorem Ev.now (v : α) : Ev (fun _ => some v) v := ⟨0, fun _ _ => rfl⟩
theorem Ev.of {f : Nat → Option α} {v : α} (h : ∀ k, f k = some v) : Ev f v := ⟨0, fun k _ => h k⟩
theorem Ev.from {f : Nat → Option α} {v : α} (n : Nat) (h : ∀ k, f (k + n) = some v) : Ev f v := ⟨n, fun k hk => by
  obtain ⟨m, rfl⟩ : ∃ m, k = m + n := ⟨k - n, by omega⟩
  exact h m⟩
theorem Ev.bind {f : Nat → Option α} {a : α} {g : Nat → α → Option β} {v : β} (h : Ev f a) (h2 : Ev (fun k => g k a) v) : Ev (fun k => (f k).bind (g k)) v := by
  obtain ⟨K, h⟩ := h
  obtain ⟨K2, h2⟩ := h2
  exact ⟨max K K2, fun k hk => by show (f k).bind (g k) = some v; rw [h k (by omega)]; exact h2 k (by omega)⟩
theorem Ev.step {g f : Nat → Option α} {v : α} (h : ∀ k, g (k + 1) = f k) (h2 : Ev f v) : Ev g v := by
  obtain ⟨K, h2⟩ := h2
  exact ⟨K + 1, fun k hk => by
    obtain ⟨m, rfl⟩ : ∃ m, k = m + 1 := ⟨k - 1, by omega⟩
    rw [h m]; exact h2 m (by omega)⟩
theorem Ev.succ {g : Nat → Option α} {v : α} (h : Ev (fun k => g (k + 1)) v) : Ev g v := Ev.step (fun _ => rfl) h
theorem Ev.ex {f : Nat → Option α} {v : α} (h : Ev f v) : ∃ k, f k = some v := let ⟨K, h⟩ := h; ⟨K, h K (Nat.le_refl _)⟩
theorem Ev.ite {p : Prop} [Decidable p] {f g : Nat → Option α} {v : α} (h1 : p → Ev f v) (h2 : ¬ p → Ev g v) : Ev (fun k => if p then f k else g k) v := by
  by_cases c : p
  · simp only [if_pos c]; exact h1 c
  · simp only [if_neg c]; exact h2 c
theorem Ev.pos {p : Prop} [Decidable p] {f g : Nat → Option α} {v : α} (c : p) (h1 : Ev f v) : Ev (fun k => if p then f k else g k) v := by simp only [if_pos c]; exact h1
theorem Ev.neg {p : Prop} [Decidable p] {f g : Nat → Option α} {v : α} (c : ¬ p) (h1 : Ev g v) : Ev (fun k => if p then f k else g k) v := by simp only [if_neg c]; exact h1

end
end Go.EV.Pure
namespace Go.EV.Pure
open Go Go.EV Go.RowKit
theorem Below_j (x : Int) : Ev (fun k => pilemake_Below.j6 k x) x := Ev.from 1 fun k => rfl
theorem Below_spec (x n : Int) (hn : n ≤ 9223372036854775807) : ∃ r, Ev (fun k => pilemake_Below.f k x n) r ∧ 0 ≤ r ∧ (1 ≤ n → r < n) ∧ (n < 1 → r = 0) := by
  unfold pilemake_Below.f
  by_cases h : n < 1
  · simp only [if_pos h]
    exact ⟨0, Ev.now _, by omega, by omega, fun _ => rfl⟩
  · simp only [if_neg h, if_neg (show ¬ n = 0 by omega)]
    have hm := Int.natAbs_tmod x n
    have hm2 := Nat.mod_lt x.natAbs (show n.natAbs > 0 by omega)
    have h1 : x.tmod n < n := by omega
    have h2 : -n < x.tmod n := by omega
    by_cases h3 : x.tmod n < 0
    · simp only [if_pos h3]
      refine ⟨_, Below_j _, ?_, ?_, ?_⟩ <;> rw [wrap_id (by omega) (by omega)] <;> omega
    · simp only [if_neg h3]
      exact ⟨_, Below_j _, by omega, by omega, by omega⟩
theorem Next_spec (l : List Int) (s n : Int) (h0 : 0 ≤ s) (h1 : s ≤ 4611686018427387904) (hn : n ≤ 9223372036854775807) (hl : l.length ≤ 140737488351232) :
    ∃ r, Ev (fun k => pilemake_Stream_Next.f k l s n) (r, l, s + 1) ∧ 0 ≤ r ∧ (1 ≤ n → r < n) := by
  unfold pilemake_Stream_Next.f
  have hs : wrap64 (s + 1) = s + 1 := wrap_id (by omega) (by omega)
  have hs2 : wrap64 (s + 1 - 1) = s := by rw [wrap_id (by omega) (by omega)]; omega
  simp only [hs, hs2]
  by_cases h : (l.length : Int) = 0
  · simp only [if_pos h]
    obtain ⟨r, hr, r0, r1, _⟩ := Below_spec (wrap64 ((s + 1) * 7919)) n hn
    exact ⟨r, Ev.bind hr (Ev.now _), r0, r1⟩
  · have e : Int.tmod s (l.length : Int) = s % (l.length : Int) := Int.tmod_eq_emod_of_nonneg h0
    have m0 : 0 ≤ s % (l.length : Int) := Int.emod_nonneg _ h
    have m1 : s % (l.length : Int) < (l.length : Int) := Int.emod_lt_of_pos _ (by omega)
    simp only [if_neg h, e, if_pos m0, if_pos m1]
    obtain ⟨a, ha, _⟩ := Below_spec (rd l (s % (l.length : Int))) 1073741824 (by omega)
    obtain ⟨r, hr, r0, r1, _⟩ := Below_spec (wrap64 (a + wrap64 (wrap64 (Int.tdiv s (l.length : Int)) * wrap64 (7919 + s % (l.length : Int))))) n hn
    exact ⟨r, Ev.bind ha (Ev.bind hr (Ev.now _)), r0, r1⟩
theorem Pick_spec (l : List Int) (s : Int) (m : List Int) (h0 : 0 ≤ s) (h1 : s ≤ 4611686018427387904) (hl : l.length ≤ 140737488351232) (hm : 1 ≤ m.length) (hm2 : m.length ≤ 1000) :
    ∃ r, Ev (fun k => pilemake_Stream_Pick.f k l s m) (r, l, s + 1) ∧ r ∈ m := by
  obtain ⟨r, hr, r0, r1⟩ := Next_spec l s (m.length : Int) h0 h1 (by omega) hl
  have r2 := r1 (by omega)
  exact ⟨rd m r, Ev.bind hr (Ev.pos r0 (Ev.pos r2 (Ev.now _))), rd_mem m r r0 r2⟩
theorem Range_spec (l : List Int) (s a b : Int) (h0 : 0 ≤ s) (h1 : s ≤ 4611686018427387904) (ha : -1099511627776 ≤ a) (hb : b ≤ 1099511627776) (hab : a ≤ b) (hl : l.length ≤ 140737488351232) :
    ∃ r, Ev (fun k => pilemake_Stream_Range.f k l s a b) (r, l, s + 1) ∧ a ≤ r ∧ r ≤ b := by
  obtain ⟨r, hr, r0, r1⟩ := Next_spec l s (b - a + 1) h0 h1 (by omega) hl
  have r2 := r1 (by omega)
  refine ⟨a + r, ?_, by omega, by omega⟩
  unfold pilemake_Stream_Range.f
  rw [wrap_id (e := b - a) (by omega) (by omega), wrap_id (e := b - a + 1) (by omega) (by omega)]
  refine Ev.neg (by omega) (Ev.bind hr ?_)
  simp only [wrap_id (e := a + r) (by omega) (by omega)]
  exact Ev.now _
theorem Flip_spec (l : List Int) (s n : Int) (h0 : 0 ≤ s) (h1 : s ≤ 4611686018427387904) (hn : n ≤ 9223372036854775807) (hl : l.length ≤ 140737488351232) :
    ∃ b, Ev (fun k => pilemake_Stream_Flip.f k l s n) (b, l, s + 1) := by
  obtain ⟨r, hr, _⟩ := Next_spec l s n h0 h1 hn hl
  exact ⟨decide (r = 0), Ev.bind hr (Ev.now _)⟩
end Go.EV.Pure
namespace Go.EV.Pure
open Go Go.EV Go.RowKit
set_option linter.unusedSimpArgs false
/-! Sites, the cosine, how far sites are from each other. -/
theorem tmod_neg {a n : Int} (h : a ≤ 0) : a.tmod n = -((-a) % n) := by
  have h1 := Int.neg_tmod (-a) n
  rw [Int.neg_neg] at h1
  rw [h1, Int.tmod_eq_emod_of_nonneg (by omega)]
theorem tdiv_neg {a n : Int} (h : a ≤ 0) : a.tdiv n = -((-a) / n) := by
  have h1 := Int.neg_tdiv (-a) n
  rw [Int.neg_neg] at h1
  rw [h1, Int.tdiv_eq_ediv_of_nonneg (by omega)]
theorem Outside_eq (a lo hi : Int) : kit_Outside.f a lo hi = some (decide (a < lo ∨ hi < a)) := by
  unfold kit_Outside.f
  split <;> simp [*]
theorem in_eq (a lo hi : Int) : pileref1_in.f a lo hi = some (decide (lo ≤ a ∧ a ≤ hi)) := by
  unfold pileref1_in.f
  split <;> simp [*]
theorem CheckSite_eq (n e : Int) : place_CheckSite.f n e = some (if (-324000 ≤ n ∧ n ≤ 324000) ∧ -648000 ≤ e ∧ e ≤ 647999 then 0 else 1) := by
  unfold place_CheckSite.f
  rw [Outside_eq, Outside_eq]
  simp only [Option.bind_some, decide_eq_true_eq]
  by_cases h : -324000 ≤ n ∧ n ≤ 324000
  · rw [if_neg (by omega)]
    by_cases h2 : -648000 ≤ e ∧ e ≤ 647999
    · rw [if_neg (by omega), if_pos ⟨h, h2⟩]
    · rw [if_pos (by omega), if_neg (by omega)]
  · rw [if_pos (by omega), if_neg (by omega)]
theorem SiteFault_eq (n e : Int) : pileref1_SiteFault.f n e = some (if (-324000 ≤ n ∧ n ≤ 324000) ∧ -648000 ≤ e ∧ e ≤ 647999 then 0 else 1) := by
  unfold pileref1_SiteFault.f
  rw [in_eq, in_eq]
  simp only [Option.bind_some, decide_eq_true_eq]
  by_cases h : -324000 ≤ n ∧ n ≤ 324000
  · rw [if_pos h]
    by_cases h2 : -648000 ≤ e ∧ e ≤ 647999
    · rw [if_pos h2, if_pos ⟨h, h2⟩]
    · rw [if_neg h2, if_neg (by omega)]
  · rw [if_neg h, if_neg (by omega)]
/-- The cosine of an angle from 0 to a quarter. -/
def cosQ (x : Int) : Int := Int.tdiv ((419904000000 - 4 * x * x) * 1000000) (419904000000 + x * x)
/-- The cosine of any angle. -/
def cosV (a : Int) : Int :=
  if a % 1296000 > 648000 then (if 1296000 - a % 1296000 > 324000 then -(cosQ (648000 - (1296000 - a % 1296000))) else cosQ (1296000 - a % 1296000))
  else (if a % 1296000 > 324000 then -(cosQ (648000 - a % 1296000)) else cosQ (a % 1296000))
theorem sq_bd (x : Int) (h0 : 0 ≤ x) (h1 : x ≤ 324000) : 0 ≤ x * x ∧ x * x ≤ 104976000000 := by
  refine ⟨Int.mul_nonneg h0 h0, ?_⟩
  exact Int.le_trans (Int.mul_le_mul_of_nonneg_left h1 h0) (Int.mul_le_mul_of_nonneg_right h1 (by omega))
theorem cosQ_bd (x : Int) (h0 : 0 ≤ x) (h1 : x ≤ 324000) : 0 ≤ cosQ x ∧ cosQ x ≤ 1000000 := by
  obtain ⟨a, b⟩ := sq_bd x h0 h1
  have e : 4 * x * x = 4 * (x * x) := by rw [Int.mul_assoc]
  unfold cosQ
  rw [e]
  generalize x * x = q at *
  rw [tdiv_pos (by omega)]
  refine ⟨Int.ediv_nonneg (by omega) (by omega), ?_⟩
  have := Int.ediv_mul_le ((419904000000 - 4 * q) * 1000000) (b := 419904000000 + q) (by omega)
  exact Int.ediv_le_of_le_mul (by omega) (by omega)
theorem cosV_bd (a : Int) : -1000000 ≤ cosV a ∧ cosV a ≤ 1000000 := by
  have m0 : 0 ≤ a % 1296000 := Int.emod_nonneg _ (by omega)
  have m1 : a % 1296000 < 1296000 := Int.emod_lt_of_pos _ (by omega)
  unfold cosV
  generalize a % 1296000 = x at *
  split
  · split
    · have := cosQ_bd (648000 - (1296000 - x)) (by omega) (by omega); omega
    · have := cosQ_bd (1296000 - x) (by omega) (by omega); omega
  · split
    · have := cosQ_bd (648000 - x) (by omega) (by omega); omega
    · have := cosQ_bd x (by omega) (by omega); omega
theorem core_eq (x : Int) (h0 : 0 ≤ x) (h1 : x ≤ 324000) :
    (if (wrap64 (419904000000 + (wrap64 (x * x)))) = 0 then (none : Option Int) else (some (wrap64 (Int.tdiv (wrap64 ((wrap64 (419904000000 - (wrap64 ((wrap64 (4 * x)) * x)))) * 1000000)) (wrap64 (419904000000 + (wrap64 (x * x)))))))) = some (cosQ x) := by
  obtain ⟨a, b⟩ := sq_bd x h0 h1
  have e : 4 * x * x = 4 * (x * x) := by rw [Int.mul_assoc]
  have hb := cosQ_bd x h0 h1
  rw [wrap_id (e := 4 * x) (by omega) (by omega), wrap_id (e := x * x) (by omega) (by omega), wrap_id (e := 419904000000 + x * x) (by omega) (by omega), wrap_id (e := 4 * x * x) (by omega) (by omega), wrap_id (e := 419904000000 - 4 * x * x) (by omega) (by omega), wrap_id (e := (419904000000 - 4 * x * x) * 1000000) (by omega) (by omega), if_neg (by omega)]
  have : (Int.tdiv ((419904000000 - 4 * x * x) * 1000000) (419904000000 + x * x)) = cosQ x := rfl
  rw [this, wrap_id (by omega) (by omega)]
theorem cosine_mod (a : Int) : Int.tmod (wrap64 (Int.tmod a 1296000 + 1296000)) 1296000 = a % 1296000 := by
  by_cases h : 0 ≤ a
  · rw [tmod_pos h, wrap_id (by omega) (by omega), tmod_pos (by omega)]; omega
  · rw [tmod_neg (a := a) (by omega), wrap_id (by omega) (by omega), tmod_pos (by omega)]; omega
theorem cosine_j (x : Int) (h0 : 0 ≤ x) (h1 : x ≤ 324000) (k : Nat) : place_cosine.j4 (k + 1) x = some (cosQ x) := by
  rw [place_cosine.j4, if_neg (by omega)]
  exact core_eq x h0 h1
theorem cosine_low (x : Int) (h0 : 0 ≤ x) (h1 : x ≤ 324000) (k : Nat) : place_cosine.f (k + 2) x = some (cosQ x) := by
  rw [place_cosine.f, cosine_mod, show x % 1296000 = x by omega, if_neg (by omega)]
  exact cosine_j x h0 h1 k
theorem cosine_jj (x : Int) (h0 : 0 ≤ x) (h1 : x ≤ 648000) (k : Nat) : place_cosine.j4 (k + 3) x = some (if x > 324000 then -(cosQ (648000 - x)) else cosQ x) := by
  by_cases d : x > 324000
  · have hb := cosQ_bd (648000 - x) (by omega) (by omega)
    rw [place_cosine.j4, if_pos d, if_pos d, wrap_id (by omega) (by omega), cosine_low _ (by omega) (by omega)]
    simp only [Option.bind_some]
    rw [wrap_id (by omega) (by omega), Int.zero_sub]
  · rw [if_neg d]
    exact cosine_j x h0 (by omega) _
theorem cosine_at (a : Int) (k : Nat) : place_cosine.f (k + 4) a = some (cosV a) := by
  have m0 : 0 ≤ a % 1296000 := Int.emod_nonneg _ (by omega)
  have m1 : a % 1296000 < 1296000 := Int.emod_lt_of_pos _ (by omega)
  rw [place_cosine.f, cosine_mod]
  unfold cosV
  generalize a % 1296000 = x at *
  by_cases c : x > 648000
  · rw [if_pos c, if_pos c, wrap_id (e := 1296000 - x) (by omega) (by omega)]
    exact cosine_jj _ (by omega) (by omega) k
  · rw [if_neg c, if_neg c]
    exact cosine_jj _ (by omega) (by omega) k
theorem cosine_ev (a : Int) : Ev (fun k => place_cosine.f k a) (cosV a) := Ev.from 4 fun k => cosine_at a k
theorem tdiv_bd (a n : Int) (h : 1 ≤ n) (c : Int) (h0 : -c ≤ a) (h1 : a ≤ c) : -c ≤ Int.tdiv a n ∧ Int.tdiv a n ≤ c := by
  by_cases s : 0 ≤ a
  · rw [tdiv_pos s]
    have := Int.ediv_le_self n s
    have := Int.ediv_nonneg s (show 0 ≤ n by omega)
    omega
  · rw [tdiv_neg (a := a) (by omega)]
    have := Int.ediv_le_self n (show 0 ≤ -a by omega)
    have := Int.ediv_nonneg (show 0 ≤ -a by omega) (show 0 ≤ n by omega)
    omega
/-- An angle to the east, taken around the world. -/
def aroundV (a : Int) : Int := (a + 648000) % 1296000 - 648000
theorem aroundV_bd (a : Int) : -648000 ≤ aroundV a ∧ aroundV a ≤ 647999 := by unfold aroundV; omega
theorem around_eq (a : Int) (h0 : -1099511627776 ≤ a) (h1 : a ≤ 1099511627776) : place_around.f a = some (aroundV a) := by
  unfold place_around.f aroundV
  rw [wrap_id (e := a + 648000) (by omega) (by omega)]
  have h : Int.tmod (wrap64 (Int.tmod (a + 648000) 1296000 + 1296000)) 1296000 = (a + 648000) % 1296000 := cosine_mod _
  rw [h, wrap_id (by omega) (by omega)]
/-- A site that may be. -/
def Right (n e : Int) : Prop := (-324000 ≤ n ∧ n ≤ 324000) ∧ -648000 ≤ e ∧ e ≤ 647999
/-- So many seconds to the north, in metres. -/
def northV (dn : Int) : Int := Int.tdiv (dn * 10000000) 324000
/-- So many seconds to the east at some angle to the north, in metres. -/
def eastV (de m : Int) : Int := Int.tdiv (Int.tdiv (de * cosV m) 1000000 * 10000000) 324000
theorem northV_bd (dn : Int) (h : -648000 ≤ dn ∧ dn ≤ 648000) : -20000000 ≤ northV dn ∧ northV dn ≤ 20000000 := by
  unfold northV
  by_cases s : 0 ≤ dn * 10000000
  · rw [tdiv_pos s]; omega
  · rw [tdiv_neg (a := dn * 10000000) (by omega)]; omega
theorem mul_bd (a b A B : Int) (hA : 0 ≤ A) (_hB : 0 ≤ B) (ha : -A ≤ a ∧ a ≤ A) (hb : -B ≤ b ∧ b ≤ B) : -(A * B) ≤ a * b ∧ a * b ≤ A * B := by
  have h1 : (a.natAbs : Int) ≤ A := by omega
  have h2 : (b.natAbs : Int) ≤ B := by omega
  have h3 : (a.natAbs : Int) * (b.natAbs : Int) ≤ A * B := Int.mul_le_mul h1 h2 (by omega) hA
  have h4 : ((a * b).natAbs : Int) = (a.natAbs : Int) * (b.natAbs : Int) := by rw [Int.natAbs_mul]; push_cast; rfl
  omega
theorem east_mid (de m : Int) (h : -648000 ≤ de ∧ de ≤ 648000) : (-648000000000 ≤ de * cosV m ∧ de * cosV m ≤ 648000000000) ∧ -648000 ≤ Int.tdiv (de * cosV m) 1000000 ∧ Int.tdiv (de * cosV m) 1000000 ≤ 648000 := by
  have hc := cosV_bd m
  have hb := mul_bd de (cosV m) 648000 1000000 (by omega) (by omega) h hc
  refine ⟨by omega, ?_⟩
  by_cases s : 0 ≤ de * cosV m
  · rw [tdiv_pos s]; omega
  · rw [tdiv_neg (a := de * cosV m) (by omega)]; omega
theorem eastV_bd (de m : Int) (h : -648000 ≤ de ∧ de ≤ 648000) : -20000000 ≤ eastV de m ∧ eastV de m ≤ 20000000 := by
  obtain ⟨_, h2⟩ := east_mid de m h
  exact northV_bd _ h2
/-- How far b is from a: to the north and to the east. -/
def metresV (an ae bn be : Int) : Int × Int := (northV (bn - an), eastV (aroundV (be - ae)) (Int.tdiv (an + bn) 2))
theorem north_raw (dn : Int) (h : -648000 ≤ dn ∧ dn ≤ 648000) : wrap64 (Int.tdiv (wrap64 (dn * 10000000)) 324000) = northV dn := by
  have := northV_bd dn h
  unfold northV at *
  rw [wrap_id (e := dn * 10000000) (by omega) (by omega), wrap_id (by omega) (by omega)]
theorem east_raw (de m : Int) (h : -648000 ≤ de ∧ de ≤ 648000) : wrap64 (Int.tdiv (wrap64 ((wrap64 (Int.tdiv (wrap64 (de * cosV m)) 1000000)) * 10000000)) 324000) = eastV de m := by
  obtain ⟨h1, h2⟩ := east_mid de m h
  rw [wrap_id (e := de * cosV m) (by omega) (by omega), wrap_id (e := Int.tdiv (de * cosV m) 1000000) (by omega) (by omega), north_raw _ h2]
  rfl
theorem between_eq (an ae bn be : Int) (ha : Right an ae) (hb : Right bn be) : place_between.f an ae bn be = some (bn - an, aroundV (be - ae)) := by
  unfold Right at ha hb
  unfold place_between.f
  rw [wrap_id (e := be - ae) (by omega) (by omega), around_eq _ (by omega) (by omega), Option.bind_some, wrap_id (by omega) (by omega)]
theorem metres_ev (an ae bn be : Int) (ha : Right an ae) (hb : Right bn be) : Ev (fun k => place_inMetres.f k an ae bn be) (metresV an ae bn be) := by
  have hr := aroundV_bd (be - ae)
  unfold place_inMetres.f
  simp only [between_eq an ae bn be ha hb, Option.bind_some]
  refine Ev.bind (cosine_ev _) ?_
  unfold Right at ha hb
  have ht := tdiv_bd (an + bn) 2 (by omega) 648000 (by omega) (by omega)
  rw [wrap_id (e := an + bn) (by omega) (by omega), wrap_id (e := Int.tdiv (an + bn) 2) (by omega) (by omega), north_raw _ (by omega), east_raw _ _ (by omega)]
  exact Ev.now _
theorem metres_bd (an ae bn be : Int) (ha : Right an ae) (hb : Right bn be) : (-20000000 ≤ (metresV an ae bn be).1 ∧ (metresV an ae bn be).1 ≤ 20000000) ∧ -20000000 ≤ (metresV an ae bn be).2 ∧ (metresV an ae bn be).2 ≤ 20000000 := by
  have hr := aroundV_bd (be - ae)
  unfold Right at ha hb
  exact ⟨northV_bd _ (by omega), eastV_bd _ _ (by omega)⟩
end Go.EV.Pure
namespace Go.EV.Pure
open Go Go.EV Go.RowKit
/-! Sites that the stream makes. -/
theorem SiteOf_j (n e : Int) (l : List Int) (s : Int) : Ev (fun k => pilemake_Stream_SiteOf.j4 k n e l s) (n, e, l, s) := Ev.from 1 fun k => rfl
theorem Odd_spec (l : List Int) (s a b : Int) (h0 : 0 ≤ s) (h1 : s ≤ 4611686018427387000) (ha : -1099511627776 ≤ a) (hb : b ≤ 1099511627776) (hab : a ≤ b) (hl : l.length ≤ 140737488351232) :
    ∃ r s', Ev (fun k => pilemake_Stream_Odd.f k l s a b) (r, l, s') ∧ s ≤ s' ∧ s' ≤ s + 2 := by
  obtain ⟨f, e1⟩ := Flip_spec l s 12 h0 (by omega) (by omega) hl
  cases f with
  | true =>
    obtain ⟨r, e2, _⟩ := Pick_spec l (s + 1) [wrap64 (a - 1), wrap64 (b + 1), a, b, (-1099511627776), 1099511627776] (by omega) (by omega) hl (by simp) (by simp)
    exact ⟨r, s + 1 + 1, Ev.bind e1 (Ev.pos rfl (Ev.bind e2 (Ev.now _))), by omega, by omega⟩
  | false =>
    obtain ⟨r, e2, _⟩ := Range_spec l (s + 1) a b (by omega) (by omega) ha hb hab hl
    exact ⟨r, s + 1 + 1, Ev.bind e1 (Ev.neg Bool.false_ne_true (Ev.bind e2 (Ev.now _))), by omega, by omega⟩
theorem SiteOf_spec (l : List Int) (s : Int) (h0 : 0 ≤ s) (h1 : s ≤ 4611686018427380000) (hl : l.length ≤ 140737488351232) :
    ∃ n e s', Ev (fun k => pilemake_Stream_SiteOf.f k l s) (n, e, l, s') ∧ s ≤ s' ∧ s' ≤ s + 20 := by
  obtain ⟨r1, e1, _⟩ := Range_spec l s (-324000) 324000 (by omega) (by omega) (by omega) (by omega) (by omega) hl
  obtain ⟨r2, e2, _⟩ := Pick_spec l (s + 1) [0, 172800, 174599, (-324000), 324000, r1] (by omega) (by omega) hl (by simp) (by simp)
  obtain ⟨r3, e3, _⟩ := Range_spec l (s + 1 + 1) (-648000) 647999 (by omega) (by omega) (by omega) (by omega) (by omega) hl
  obtain ⟨r4, e4, _⟩ := Pick_spec l (s + 1 + 1 + 1) [0, 36000, (-648000), 647999, r3] (by omega) (by omega) hl (by simp) (by simp)
  obtain ⟨f, e5⟩ := Flip_spec l (s + 1 + 1 + 1 + 1) 20 (by omega) (by omega) (by omega) hl
  cases f with
  | true =>
    obtain ⟨r6, s6, e6, b6, c6⟩ := Odd_spec l (s + 1 + 1 + 1 + 1 + 1) (-324000) 324000 (by omega) (by omega) (by omega) (by omega) (by omega) hl
    obtain ⟨r7, s7, e7, b7, c7⟩ := Odd_spec l s6 (-648000) 647999 (by omega) (by omega) (by omega) (by omega) (by omega) hl
    exact ⟨r6, r7, s7, Ev.bind e1 (Ev.bind e2 (Ev.bind e3 (Ev.bind e4 (Ev.bind e5 (Ev.pos rfl (Ev.bind e6 (Ev.bind e7 (SiteOf_j _ _ _ _)))))))), by omega, by omega⟩
  | false =>
    exact ⟨r2, r4, s + 1 + 1 + 1 + 1 + 1, Ev.bind e1 (Ev.bind e2 (Ev.bind e3 (Ev.bind e4 (Ev.bind e5 (Ev.neg Bool.false_ne_true (SiteOf_j _ _ _ _)))))), by omega, by omega⟩
theorem RightSite_loop (l : List Int) (hl : l.length ≤ 140737488351232) (d : Nat) : ∀ (i s : Int), 0 ≤ i → i + d = 6 → 0 ≤ s → s + 20 * d ≤ 4611686018427370000 →
    ∃ n e s', Ev (fun k => pilemake_Stream_RightSite.l0 k i l s) (n, e, l, s') ∧ Right n e ∧ s ≤ s' ∧ s' ≤ s + 20 * d := by
  induction d with
  | zero =>
    intro i s h0 hi hs _
    refine ⟨0, 0, s, Ev.step (f := fun _ => some _) (fun k => ?_) (Ev.now _), by unfold Right; omega, by omega, by omega⟩
    simp only [pilemake_Stream_RightSite.l0]
    rw [if_neg (by omega)]
  | succ d ih =>
    intro i s h0 hi hs h1
    obtain ⟨n, e, s', e1, b1, c1⟩ := SiteOf_spec l s hs (by omega) hl
    by_cases c : Right n e
    · refine ⟨n, e, s', Ev.succ ?_, c, by omega, by omega⟩
      simp only [pilemake_Stream_RightSite.l0]
      refine Ev.pos (by omega) (Ev.bind e1 ?_)
      simp only [SiteFault_eq, Option.bind_some]
      unfold Right at c
      exact Ev.pos (if_pos c) (Ev.now _)
    · obtain ⟨n2, e2, s2, e3, b2, c2, c3⟩ := ih (i + 1) s' (by omega) (by omega) (by omega) (by omega)
      refine ⟨n2, e2, s2, Ev.succ ?_, b2, by omega, by omega⟩
      simp only [pilemake_Stream_RightSite.l0, wrap_id (e := i + 1) (by omega) (by omega)]
      refine Ev.pos (by omega) (Ev.bind e1 ?_)
      simp only [SiteFault_eq, Option.bind_some]
      unfold Right at c
      exact Ev.neg (by rw [if_neg c]; omega) e3
theorem RightSite_spec (l : List Int) (s : Int) (h0 : 0 ≤ s) (h1 : s ≤ 4611686018427360000) (hl : l.length ≤ 140737488351232) :
    ∃ n e s', Ev (fun k => pilemake_Stream_RightSite.f k l s) (n, e, l, s') ∧ Right n e ∧ s ≤ s' ∧ s' ≤ s + 120 := by
  obtain ⟨n, e, s', a, b, c, d⟩ := RightSite_loop l hl 6 0 s (by omega) (by omega) h0 (by omega)
  exact ⟨n, e, s', a, b, c, by omega⟩
end Go.EV.Pure
namespace Go.EV.Pure
open Go Go.EV Go.RowKit
set_option linter.unusedSimpArgs false
/-! How far sites are from each other there and back, winds, ways. -/
theorem root_ex (x : Int) (n : Nat) : ∀ a b : Int, 0 ≤ a → a ≤ b → b ≤ 2147483648 → b - a ≤ n → ∃ r, Ev (fun k => place_root.l0 k x a b) r := by
  induction n with
  | zero =>
    intro a b h0 h1 h2 h3
    refine ⟨a, Ev.step (f := fun _ => some _) (fun k => ?_) (Ev.now _)⟩
    simp only [place_root.l0]
    rw [wrap_id (e := a + 1) (by omega) (by omega), if_neg (by omega)]
  | succ n ih =>
    intro a b h0 h1 h2 h3
    by_cases c : a + 1 < b
    · have hm : wrap64 (Int.tdiv (wrap64 (a + b)) 2) = (a + b) / 2 := by
        rw [wrap_id (e := a + b) (by omega) (by omega), tdiv_pos (by omega), wrap_id (by omega) (by omega)]
      by_cases d : wrap64 ((a + b) / 2 * ((a + b) / 2)) ≤ x
      · obtain ⟨r, r1⟩ := ih ((a + b) / 2) b (by omega) (by omega) h2 (by omega)
        refine ⟨r, Ev.step (fun k => ?_) r1⟩
        simp only [place_root.l0]
        rw [wrap_id (e := a + 1) (by omega) (by omega), if_pos c, hm, if_pos d]
      · obtain ⟨r, r1⟩ := ih a ((a + b) / 2) (by omega) (by omega) (by omega) (by omega)
        refine ⟨r, Ev.step (fun k => ?_) r1⟩
        simp only [place_root.l0]
        rw [wrap_id (e := a + 1) (by omega) (by omega), if_pos c, hm, if_neg d]
    · refine ⟨a, Ev.step (f := fun _ => some _) (fun k => ?_) (Ev.now _)⟩
      simp only [place_root.l0]
      rw [wrap_id (e := a + 1) (by omega) (by omega), if_neg c]
theorem dist_ex (x : Int) : ∃ r, ∀ an ae bn be, Right an ae → Right bn be → wrap64 ((wrap64 ((metresV an ae bn be).1 * (metresV an ae bn be).1)) + (wrap64 ((metresV an ae bn be).2 * (metresV an ae bn be).2))) = x → Ev (fun k => place_distance.f k an ae bn be) r := by
  obtain ⟨r, r1⟩ := root_ex x 2147483648 0 2147483648 (by omega) (by omega) (by omega) (by omega)
  exact ⟨r, fun an ae bn be ha hb hx => Ev.bind (metres_ev an ae bn be ha hb) (by simp only [hx]; exact Ev.bind r1 (Ev.now _))⟩
theorem around_neg (d : Int) : aroundV (-d) = -(aroundV d) ∨ (aroundV d = -648000 ∧ aroundV (-d) = -648000) := by unfold aroundV; omega
theorem northV_neg (d : Int) : northV (-d) = -(northV d) := by
  unfold northV
  rw [Int.neg_mul, Int.neg_tdiv]
theorem eastV_neg (d m : Int) : eastV (-d) m = -(eastV d m) := by
  unfold eastV
  rw [Int.neg_mul, Int.neg_tdiv, Int.neg_mul, Int.neg_tdiv]
/-- There and back. -/
theorem metres_back (an ae bn be : Int) : (metresV bn be an ae).1 = -(metresV an ae bn be).1 ∧ ((metresV bn be an ae).2 = -(metresV an ae bn be).2 ∨ (aroundV (be - ae) = -648000 ∧ (metresV bn be an ae).2 = (metresV an ae bn be).2)) := by
  unfold metresV
  have e1 : an - bn = -(bn - an) := by omega
  have e2 : ae - be = -(be - ae) := by omega
  have e3 : bn + an = an + bn := by omega
  rw [e1, e2, e3]
  refine ⟨northV_neg _, ?_⟩
  rcases around_neg (be - ae) with h | ⟨h1, h2⟩
  · left
    rw [h]; exact eastV_neg _ _
  · right
    exact ⟨h1, by simp only [h1, h2]⟩
theorem distances (an ae bn be : Int) (ha : Right an ae) (hb : Right bn be) : ∃ r, Ev (fun k => place_distance.f k an ae bn be) r ∧ Ev (fun k => place_distance.f k bn be an ae) r := by
  obtain ⟨r, h⟩ := dist_ex (wrap64 ((wrap64 ((metresV an ae bn be).1 * (metresV an ae bn be).1)) + (wrap64 ((metresV an ae bn be).2 * (metresV an ae bn be).2))))
  refine ⟨r, h _ _ _ _ ha hb rfl, h _ _ _ _ hb ha ?_⟩
  obtain ⟨h1, h2⟩ := metres_back an ae bn be
  rw [h1, Int.neg_mul_neg]
  rcases h2 with h2 | ⟨_, h2⟩
  · rw [h2, Int.neg_mul_neg]
  · rw [h2]
theorem checkBoth_eq (an ae bn be : Int) : place_checkBoth.f an ae bn be = some (if ((-324000 ≤ an ∧ an ≤ 324000) ∧ -648000 ≤ ae ∧ ae ≤ 647999) ∧ ((-324000 ≤ bn ∧ bn ≤ 324000) ∧ -648000 ≤ be ∧ be ≤ 647999) then 0 else 1) := by
  unfold place_checkBoth.f
  rw [CheckSite_eq]
  simp only [Option.bind_some]
  by_cases h1 : (-324000 ≤ an ∧ an ≤ 324000) ∧ -648000 ≤ ae ∧ ae ≤ 647999
  · rw [if_pos h1, if_pos rfl, CheckSite_eq]
    by_cases h2 : (-324000 ≤ bn ∧ bn ≤ 324000) ∧ -648000 ≤ be ∧ be ≤ 647999
    · rw [if_pos h2, if_pos ⟨h1, h2⟩]; rfl
    · rw [if_neg h2, if_neg (fun h => h2 h.2)]; rfl
  · rw [if_neg h1, if_neg (by omega), if_neg (fun h => h1 h.1)]
/-- The wind of two numbers of metres (x and y: their amounts), with its fault. -/
def windW (n e x y : Int) : Int × Int :=
  if n = 0 ∧ e = 0 then (0, 8)
  else if 12 * y ≤ 5 * x ∧ n > 0 then (0, 0)
  else if 12 * y ≤ 5 * x then (4, 0)
  else if 12 * x ≤ 5 * y ∧ e > 0 then (2, 0)
  else if 12 * x ≤ 5 * y then (6, 0)
  else if n > 0 ∧ e > 0 then (1, 0)
  else if e > 0 then (3, 0)
  else if n > 0 then (7, 0) else (5, 0)
def windV (n e : Int) : Int × Int := windW n e (mx n (-n)) (mx e (-e))
theorem amount (n : Int) (h : -20000000 ≤ n ∧ n ≤ 20000000) : 0 ≤ mx n (-n) ∧ mx n (-n) ≤ 20000000 ∧ (mx n (-n) = 0 ↔ n = 0) ∧ (n > 0 → mx n (-n) = n) ∧ (n < 0 → mx n (-n) = -n) := by
  rw [mx_eq]
  split <;> omega
theorem Wind_ev (an ae bn be : Int) (ha : Right an ae) (hb : Right bn be) : Ev (fun k => place_Wind.f k an ae bn be) (windV (metresV an ae bn be).1 (metresV an ae bn be).2) := by
  obtain ⟨b1, b2⟩ := metres_bd an ae bn be ha hb
  have hm := metres_ev an ae bn be ha hb
  unfold place_Wind.f
  rw [checkBoth_eq, if_pos ⟨ha, hb⟩]
  simp only [Option.bind_some, if_true]
  refine Ev.bind hm ?_
  obtain ⟨x0, x1, x2, _, _⟩ := amount _ b1
  obtain ⟨y0, y1, y2, _, _⟩ := amount _ b2
  rw [wrap_id (e := 0 - (metresV an ae bn be).1) (by omega) (by omega), wrap_id (e := 0 - (metresV an ae bn be).2) (by omega) (by omega), Int.zero_sub, Int.zero_sub]
  unfold windV
  generalize (metresV an ae bn be).1 = n at *
  generalize (metresV an ae bn be).2 = e at *
  generalize mx n (-n) = x at *
  generalize mx e (-e) = y at *
  rw [wrap_id (e := 12 * y) (by omega) (by omega), wrap_id (e := 5 * x) (by omega) (by omega), wrap_id (e := 12 * x) (by omega) (by omega), wrap_id (e := 5 * y) (by omega) (by omega)]
  unfold windW
  refine Ev.of fun k => ?_
  by_cases z1 : n = 0 <;> by_cases z2 : e = 0 <;> by_cases q1 : 12 * y ≤ 5 * x <;> by_cases q2 : 12 * x ≤ 5 * y <;> by_cases q3 : n > 0 <;> by_cases q4 : e > 0
  all_goals first
    | (exfalso; omega)
    | (have zz : ¬ ((0 : Int) > 0) := by decide
       have w1 : (x = 0) = (n = 0) := propext x2
       have w2 : (y = 0) = (e = 0) := propext y2
       simp only [w1, w2, z1, z2, q1, q2, q3, q4, zz, if_true, if_false, and_true, and_false, true_and, false_and, and_self])
theorem windV_back (n e : Int) : (windV (-n) (-e)).2 = (windV n e).2 ∧ ((windV n e).2 = 0 ∨ (windV n e).2 = 8) ∧ ((windV n e).2 = 0 → (windV (-n) (-e)).1 = Int.tmod ((windV n e).1 + 4) 8 ∧ 0 ≤ (windV n e).1 ∧ (windV n e).1 ≤ 7) := by
  have m1 : mx (-n) (- -n) = mx n (-n) := by rw [mx_eq, mx_eq]; split <;> split <;> omega
  have m2 : mx (-e) (- -e) = mx e (-e) := by rw [mx_eq, mx_eq]; split <;> split <;> omega
  unfold windV
  rw [m1, m2]
  have x0 : 0 ≤ mx n (-n) ∧ (mx n (-n) = 0 ↔ n = 0) := by rw [mx_eq]; split <;> omega
  have y0 : 0 ≤ mx e (-e) ∧ (mx e (-e) = 0 ↔ e = 0) := by rw [mx_eq]; split <;> omega
  generalize mx n (-n) = x at *
  generalize mx e (-e) = y at *
  unfold windW
  by_cases z1 : n = 0 <;> by_cases z2 : e = 0 <;> by_cases q1 : 12 * y ≤ 5 * x <;> by_cases q2 : 12 * x ≤ 5 * y <;> by_cases q3 : n > 0 <;> by_cases q4 : e > 0
  all_goals first
    | (exfalso; omega)
    | (have n1 : (-n = 0) ↔ (n = 0) := by omega
       have n0 : (-e = 0) ↔ (e = 0) := by omega
       have n2 : (-n > 0) ↔ ¬ (n > 0) ∧ ¬ n = 0 := by omega
       have n3 : (-e > 0) ↔ ¬ (e > 0) ∧ ¬ e = 0 := by omega
       have zz : ¬ ((0 : Int) > 0) := by decide
       simp only [n1, n0, n2, n3, Int.neg_zero, z1, z2, q1, q2, q3, q4, zz, if_true, if_false, and_true, and_false, true_and, false_and, and_self, not_true_eq_false, not_false_eq_true]
       decide)
theorem windV_err (n e : Int) : (windV n e).2 = if n = 0 ∧ e = 0 then 8 else 0 := by
  unfold windV windW
  by_cases h : n = 0 ∧ e = 0
  · simp only [if_pos h]
  · simp only [if_neg h]
    repeat' split
    all_goals rfl
end Go.EV.Pure
namespace Go.EV.Pure
open Go Go.EV Go.RowKit
set_option maxRecDepth 100000
theorem ready_ev : Ev (fun k => pilekeep1_ready.f k) true := Ev.from 300 fun k => (by kernel_rfl : pilekeep1_ready.f (k + 300) = some true)
end Go.EV.Pure
namespace Go.EV.Pure
open Go Go.EV Go.RowKit
theorem Distance_ev (an ae bn be r : Int) (ha : Right an ae) (hb : Right bn be) (h : Ev (fun k => place_distance.f k an ae bn be) r) : Ev (fun k => place_Distance.f k an ae bn be) (r, 0) := by
  unfold place_Distance.f
  simp only [checkBoth_eq, Option.bind_some]
  exact Ev.pos (if_pos ⟨ha, hb⟩) (Ev.bind h (Ev.now _))
theorem DistancesAreEqual (l : List Int) (hl : l.length ≤ 140737488351232) : ∃ k, pilekeep1_DistancesAreEqual.f k l = some true := by
  obtain ⟨an, ae, s, e1, ha, b1, c1⟩ := RightSite_spec l 0 (by omega) (by omega) hl
  obtain ⟨bn, be, s2, e2, hb, b2, c2⟩ := RightSite_spec l s (by omega) (by omega) hl
  obtain ⟨r, d1, d2⟩ := distances an ae bn be ha hb
  have w1 := Wind_ev an ae bn be ha hb
  have w2 := Wind_ev bn be an ae hb ha
  obtain ⟨m1, m2⟩ := metres_back an ae bn be
  rw [m1] at w2
  generalize hn : (metresV an ae bn be).1 = n at *
  have herr := windV_err n (metresV an ae bn be).2
  have hR : Ev (fun k => (pilekeep1_ready.f k).bind fun r => Option.some r) true := Ev.bind ready_ev (Ev.now _)
  refine (Ev.bind e1 (Ev.bind e2 (Ev.bind (Distance_ev _ _ _ _ _ ha hb d1) (Ev.bind (Distance_ev _ _ _ _ _ hb ha d2) (Ev.pos rfl (Ev.pos rfl (Ev.pos rfl (Ev.bind w1 (Ev.bind w2 ?_))))))))).ex
  simp only
  unfold Right at ha hb
  rcases m2 with m2 | ⟨m2, m3⟩
  · rw [m2]
    obtain ⟨q1, q2, q3⟩ := windV_back n (metresV an ae bn be).2
    generalize windV n (metresV an ae bn be).2 = v at *
    generalize windV (-n) (-(metresV an ae bn be).2) = w at *
    refine Ev.pos q1.symm ?_
    rcases q2 with q2 | q2
    · obtain ⟨q4, q5, q6⟩ := q3 q2
      refine Ev.pos q2 (Ev.pos q2 (Ev.ite (fun _ => hR) fun _ => Ev.pos ?_ hR))
      rw [q4, wrap_id (by omega) (by omega)]
    · exact Ev.neg (by omega) (Ev.pos q2 (Ev.neg (by omega) hR))
  · rw [m3]
    have herr2 := windV_err (-n) (metresV an ae bn be).2
    have e0 : ((-n = 0 ∧ (metresV an ae bn be).2 = 0)) = ((n = 0 ∧ (metresV an ae bn be).2 = 0)) := propext (by omega)
    have q1 : (windV n (metresV an ae bn be).2).2 = (windV (-n) (metresV an ae bn be).2).2 := by rw [herr, herr2]; simp only [e0]
    have q2 : (windV n (metresV an ae bn be).2).2 = 0 ∨ (windV n (metresV an ae bn be).2).2 = 8 := by rw [herr]; split <;> simp
    have half : mx (wrap64 (ae - be)) (wrap64 (be - ae)) = 648000 := by
      unfold aroundV at m2
      rw [wrap_id (by omega) (by omega), wrap_id (by omega) (by omega), mx_eq]
      split <;> omega
    refine Ev.pos q1 ?_
    rcases q2 with q2 | q2
    · exact Ev.pos q2 (Ev.pos q2 (Ev.pos half hR))
    · exact Ev.neg (by omega) (Ev.pos q2 (Ev.neg (by omega) hR))
end Go.EV.Pure
