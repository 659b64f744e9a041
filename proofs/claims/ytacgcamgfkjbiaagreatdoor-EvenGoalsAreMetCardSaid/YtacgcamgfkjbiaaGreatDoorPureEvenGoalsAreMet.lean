/- The plain law: the Lean functions answer true for every list. -/
import Derived.Test.YtacgcamgfkjbiaaGreatDoorXEvenGoalsAreMet
import Derived.KernelRfl
set_option linter.unusedVariables false
set_option linter.unusedSimpArgs false
/-! Plain laws that all statements use: numbers that don't wrap, functions with fuel, loops over lists, the stream's draws. -/
namespace Go.EV.Pure
open Go Go.EV Go.RowKit
theorem wrap_id {e : Int} (h1 : -9223372036854775808 ≤ e) (h2 : e ≤ 9223372036854775807) : wrap64 e = e := by
  unfold wrap64
  omega
theorem tdiv_pos {a n : Int} (h : 0 ≤ a) : a.tdiv n = a / n := Int.tdiv_eq_ediv_of_nonneg h
theorem mn_eq (a b : Int) : mn a b = if b < a then b else a := rfl
theorem rd_get (l : List Int) (i : Nat) (h : i < l.length) : rd l (i : Int) = l[i] := by
  simp [rd, List.getD, List.getElem?_eq_getElem h]
theorem rd_mem (l : List Int) (i : Int) (h0 : 0 ≤ i) (h1 : i < l.length) : rd l i ∈ l := by
  have h : i.toNat < l.length := by omega
  have : rd l i = l[i.toNat] := by simp [rd, List.getD, List.getElem?_eq_getElem h]
  rw [this]
  exact List.getElem_mem h
theorem wrap_succ {i : Nat} (h : i ≤ 1000000000000000) : wrap64 ((i : Int) + 1) = ((i + 1 : Nat) : Int) := by rw [wrap_id (by omega) (by omega)]; omega

/-- From some fuel on the function answers v. -/
def Ev {α : Type} (f : Nat → Option α) (v : α) : Prop := ∃ K, ∀ k, K ≤ k → f k = some v
section
variable {α β : Type}
theorem Ev.now (v : α) : Ev (fun _ => some v) v := ⟨0, fun _ _ => rfl⟩
theorem Ev.of {f : Nat → Option α} {v : α} (h : ∀ k, f k = some v) : Ev f v := ⟨0, fun k _ => h k⟩
theorem Ev.from {f : Nat → Option α} {v : α} (n : Nat) (h : ∀ k, f (k + n) = some v) : Ev f v := ⟨n, fun k hk => by
  obtain ⟨m, rfl⟩ : ∃ m, k = m + n := ⟨k - n, by omega⟩
  exact h m⟩
theorem Ev.bind {f : Nat → Option α} {a : α} {g : Nat → α → Option β} {v : β} (h : Ev f a) (h2 : Ev (fun k => g k a) v) : Ev (fun k => (f k).bind (g k)) v := by
  obtain ⟨K, h⟩ := h
  obtain ⟨K2, h2⟩ := h2
  exact ⟨max K K2, fun k hk => by show (f k).bind (g k) = some v; rw [h k (by omega)]; exact h2 k (by omega)⟩
theorem Ev.step {g f : Nat → Option α} {v : α} (h : ∀ k, g (k + 1) = f k) (h2 : Ev f v) : Ev g v := by
  obtain ⟨K, h2⟩ := h2
  exact ⟨K + 1, fun k hk => by
    obtain ⟨m, rfl⟩ : ∃ m, k = m + 1 := ⟨k - 1, by omega⟩
    rw [h m]; exact h2 m (by omega)⟩
theorem Ev.succ {g : Nat → Option α} {v : α} (h : Ev (fun k => g (k + 1)) v) : Ev g v := Ev.step (fun _ => rfl) h
theorem Ev.congr {f g : Nat → Option α} {v : α} (h : ∀ k, f k = g k) (h2 : Ev g v) : Ev f v := by
  obtain ⟨K, h2⟩ := h2
  exact ⟨K, fun k hk => (h k).trans (h2 k hk)⟩
theorem Ev.ex {f : Nat → Option α} {v : α} (h : Ev f v) : ∃ k, f k = some v := let ⟨K, h⟩ := h; ⟨K, h K (Nat.le_refl _)⟩
theorem Ev.pos {p : Prop} [Decidable p] {f g : Nat → Option α} {v : α} (c : p) (h1 : Ev f v) : Ev (fun k => if p then f k else g k) v := by simp only [if_pos c]; exact h1
theorem Ev.neg {p : Prop} [Decidable p] {f g : Nat → Option α} {v : α} (c : ¬ p) (h1 : Ev g v) : Ev (fun k => if p then f k else g k) v := by simp only [if_neg c]; exact h1

/-- A loop over a list by its index: what holds of its state carries over each round, or the round is the last one. -/
theorem loop {σ ρ : Type} (l : List α) (F : Nat → Int → σ → Option ρ) (I : Nat → σ → Prop) (post : ρ → Prop)
    (hstep : ∀ (i : Nat) (s : σ), i < l.length → I i s → (∃ s', I (i + 1) s' ∧ ∀ v, Ev (fun k => F k ((i + 1 : Nat) : Int) s') v → Ev (fun k => F k (i : Int) s) v) ∨ ∃ v, post v ∧ Ev (fun k => F k (i : Int) s) v)
    (hend : ∀ s, I l.length s → ∃ v, post v ∧ Ev (fun k => F k (l.length : Int) s) v) :
    ∀ (i : Nat) (s : σ), i ≤ l.length → I i s → ∃ v, post v ∧ Ev (fun k => F k (i : Int) s) v := by
  intro i
  generalize hd : l.length - i = d
  induction d generalizing i with
  | zero =>
    intro s hi hI
    obtain rfl : i = l.length := by omega
    exact hend s hI
  | succ d ih =>
    intro s hi hI
    rcases hstep i s (by omega) hI with ⟨s', h1, h2⟩ | h
    · obtain ⟨v, h3, h4⟩ := ih (i + 1) (by omega) s' (by omega) h1
      exact ⟨v, h3, h2 v h4⟩
    · exact h
end
end Go.EV.Pure
namespace Go.EV.Pure
open Go Go.EV Go.RowKit
theorem Below_j (x : Int) : Ev (fun k => pilemake_Below.j6 k x) x := Ev.from 1 fun k => rfl
theorem Below_spec (x n : Int) (hn : n ≤ 9223372036854775807) : ∃ r, Ev (fun k => pilemake_Below.f k x n) r ∧ 0 ≤ r ∧ (1 ≤ n → r < n) ∧ (n < 1 → r = 0) := by
  unfold pilemake_Below.f
  by_cases h : n < 1
  · simp only [if_pos h]
    exact ⟨0, Ev.now _, by omega, by omega, fun _ => rfl⟩
  · simp only [if_neg h, if_neg (show ¬ n = 0 by omega)]
    have hm := Int.natAbs_tmod x n
    have hm2 := Nat.mod_lt x.natAbs (show n.natAbs > 0 by omega)
    have h1 : x.tmod n < n := by omega
    have h2 : -n < x.tmod n := by omega
    by_cases h3 : x.tmod n < 0
    · simp only [if_pos h3]
      refine ⟨_, Below_j _, ?_, ?_, ?_⟩ <;> rw [wrap_id (by omega) (by omega)] <;> omega
    · simp only [if_neg h3]
      exact ⟨_, Below_j _, by omega, by omega, by omega⟩
theorem Next_spec (l : List Int) (s n : Int) (h0 : 0 ≤ s) (h1 : s ≤ 4611686018427387904) (hn : n ≤ 9223372036854775807) (hl : l.length ≤ 140737488351232) :
    ∃ r, Ev (fun k => pilemake_Stream_Next.f k l s n) (r, l, s + 1) ∧ 0 ≤ r ∧ (1 ≤ n → r < n) := by
  unfold pilemake_Stream_Next.f
  have hs : wrap64 (s + 1) = s + 1 := wrap_id (by omega) (by omega)
  have hs2 : wrap64 (s + 1 - 1) = s := by rw [wrap_id (by omega) (by omega)]; omega
  simp only [hs, hs2]
  by_cases h : (l.length : Int) = 0
  · simp only [if_pos h]
    obtain ⟨r, hr, r0, r1, _⟩ := Below_spec (wrap64 ((s + 1) * 7919)) n hn
    exact ⟨r, Ev.bind hr (Ev.now _), r0, r1⟩
  · have e : Int.tmod s (l.length : Int) = s % (l.length : Int) := Int.tmod_eq_emod_of_nonneg h0
    have m0 : 0 ≤ s % (l.length : Int) := Int.emod_nonneg _ h
    have m1 : s % (l.length : Int) < (l.length : Int) := Int.emod_lt_of_pos _ (by omega)
    simp only [if_neg h, e, if_pos m0, if_pos m1]
    obtain ⟨a, ha, _⟩ := Below_spec (rd l (s % (l.length : Int))) 1073741824 (by omega)
    obtain ⟨r, hr, r0, r1, _⟩ := Below_spec (wrap64 (a + wrap64 (wrap64 (Int.tdiv s (l.length : Int)) * wrap64 (7919 + s % (l.length : Int))))) n hn
    exact ⟨r, Ev.bind ha (Ev.bind hr (Ev.now _)), r0, r1⟩
theorem Pick_spec (l : List Int) (s : Int) (m : List Int) (h0 : 0 ≤ s) (h1 : s ≤ 4611686018427387904) (hl : l.length ≤ 140737488351232) (hm : 1 ≤ m.length) (hm2 : m.length ≤ 1000) :
    ∃ r, Ev (fun k => pilemake_Stream_Pick.f k l s m) (r, l, s + 1) ∧ r ∈ m := by
  obtain ⟨r, hr, r0, r1⟩ := Next_spec l s (m.length : Int) h0 h1 (by omega) hl
  have r2 := r1 (by omega)
  exact ⟨rd m r, Ev.bind hr (Ev.pos r0 (Ev.pos r2 (Ev.now _))), rd_mem m r r0 r2⟩
theorem Range_spec (l : List Int) (s a b : Int) (h0 : 0 ≤ s) (h1 : s ≤ 4611686018427387904) (ha : -1099511627776 ≤ a) (hb : b ≤ 1099511627776) (hab : a ≤ b) (hl : l.length ≤ 140737488351232) :
    ∃ r, Ev (fun k => pilemake_Stream_Range.f k l s a b) (r, l, s + 1) ∧ a ≤ r ∧ r ≤ b := by
  obtain ⟨r, hr, r0, r1⟩ := Next_spec l s (b - a + 1) h0 h1 (by omega) hl
  have r2 := r1 (by omega)
  refine ⟨a + r, ?_, by omega, by omega⟩
  unfold pilemake_Stream_Range.f
  rw [wrap_id (e := b - a) (by omega) (by omega), wrap_id (e := b - a + 1) (by omega) (by omega)]
  refine Ev.neg (by omega) (Ev.bind hr ?_)
  simp only [wrap_id (e := a + r) (by omega) (by omega)]
  exact Ev.now _
theorem Flip_spec (l : List Int) (s n : Int) (h0 : 0 ≤ s) (h1 : s ≤ 4611686018427387904) (hn : n ≤ 9223372036854775807) (hl : l.length ≤ 140737488351232) :
    ∃ b, Ev (fun k => pilemake_Stream_Flip.f k l s n) (b, l, s + 1) := by
  obtain ⟨r, hr, _⟩ := Next_spec l s n h0 h1 hn hl
  exact ⟨decide (r = 0), Ev.bind hr (Ev.now _)⟩
end Go.EV.Pure
namespace Go.EV.Pure
open Go Go.EV Go.RowKit
/-- How many are before a. -/
def cntLt (l : List Int) (a : Int) : Nat := l.countP fun x => decide (x < a)
/-- What is wrong with times in a window: from a time on, behind one. -/
def scanV (w0 w1 : Int) : Option Int → List Int → Int
  | _, [] => 0
  | p, x :: l => if w0 ≤ x ∧ x < w1 then (if (∃ y, p = some y ∧ x < y) then 7 else scanV w0 w1 (some x) l) else 1
def prevV (l : List Int) (i : Nat) : Option Int := if i = 0 then none else l[i - 1]?
/-- What is wrong with times in a window. -/
def timesV (l : List Int) (w0 w1 : Int) : Int :=
  if 0 ≤ w0 ∧ w0 < w1 ∧ w1 ≤ 345686400000 then (if l.length > 2000 then 2 else scanV w0 w1 none l) else 1
theorem scan_ok (w0 w1 : Int) (l : List Int) : ∀ p, scanV w0 w1 p l = 0 → (∀ x ∈ l, w0 ≤ x ∧ x < w1) ∧ l.Pairwise (· ≤ ·) ∧ ∀ y, p = some y → ∀ x ∈ l, y ≤ x := by
  induction l with
  | nil => intro p _; simp
  | cons x l ih =>
    intro p h
    simp only [scanV] at h
    by_cases c : w0 ≤ x ∧ x < w1
    · rw [if_pos c] at h
      by_cases d : ∃ y, p = some y ∧ x < y
      · rw [if_pos d] at h; omega
      · rw [if_neg d] at h
        obtain ⟨h1, h2, h3⟩ := ih _ h
        refine ⟨?_, ?_, ?_⟩
        · intro z hz
          rcases List.mem_cons.1 hz with rfl | hz
          · exact c
          · exact h1 z hz
        · exact List.pairwise_cons.2 ⟨fun z hz => h3 x rfl z hz, h2⟩
        · intro y hy z hz
          have hyx : y ≤ x := by
            by_cases e : x < y
            · exact absurd ⟨y, hy, e⟩ d
            · omega
          rcases List.mem_cons.1 hz with rfl | hz
          · exact hyx
          · have := h3 x rfl z hz; omega
    · rw [if_neg c] at h; omega
theorem times_ok {l : List Int} {w0 w1 : Int} (h : timesV l w0 w1 = 0) : (0 ≤ w0 ∧ w0 < w1 ∧ w1 ≤ 345686400000) ∧ l.length ≤ 2000 ∧ (∀ x ∈ l, w0 ≤ x ∧ x < w1) ∧ l.Pairwise (· ≤ ·) := by
  unfold timesV at h
  by_cases c : 0 ≤ w0 ∧ w0 < w1 ∧ w1 ≤ 345686400000
  · rw [if_pos c] at h
    by_cases d : l.length > 2000
    · rw [if_pos d] at h; omega
    · rw [if_neg d] at h
      obtain ⟨h1, h2, _⟩ := scan_ok _ _ _ _ h
      exact ⟨c, by omega, h1, h2⟩
  · rw [if_neg c] at h; omega
theorem Has_eq (a b x : Int) : kit_Has.f a b x = some (decide (a ≤ x ∧ x < b)) := by
  unfold kit_Has.f
  split <;> simp [*]
theorem inside_eq (a b x : Int) : pileref1_inside.f a b x = some (decide (a ≤ x ∧ x < b)) := by
  unfold pileref1_inside.f
  split <;> simp [*]
theorem IsTime_eq (a b : Int) : kit_IsTime.f a b = some (decide (0 ≤ a ∧ a < b ∧ b ≤ 345686400000)) := by
  unfold kit_IsTime.f
  split
  · split <;> simp [*] <;> omega
  · simp; omega
theorem timeFault_eq (a b : Int) : pileref1_timeFault.f a b = some (if 0 ≤ a ∧ a < b ∧ b ≤ 345686400000 then 0 else 1) := by
  unfold pileref1_timeFault.f
  repeat' split
  all_goals first | rfl | omega
theorem CheckTimes_loop (l : List Int) (hl : l.length ≤ 140737488351232) (w0 w1 : Int) (d : Nat) : ∀ i : Nat, i + d = l.length →
    Ev (fun k => rate_CheckTimes.l0 k l w0 w1 (i : Int)) (scanV w0 w1 (prevV l i) (l.drop i)) := by
  induction d with
  | zero =>
    intro i hi
    refine Ev.step (f := fun _ => some _) (fun k => ?_) (Ev.now _)
    simp only [rate_CheckTimes.l0]
    rw [if_neg (by omega), List.drop_of_length_le (by omega)]
    rfl
  | succ d ih =>
    intro i hi
    have hlt : i < l.length := by omega
    have hd : l.drop i = l[i] :: l.drop (i + 1) := List.drop_eq_getElem_cons hlt
    have hr := rd_get l i hlt
    have hw : wrap64 ((i : Int) + 1) = ((i + 1 : Nat) : Int) := by rw [wrap_id (by omega) (by omega)]; omega
    have hp : prevV l (i + 1) = some l[i] := by simp [prevV, List.getElem?_eq_getElem hlt]
    have ih' := ih (i + 1) (by omega)
    rw [hp] at ih'
    rw [hd]
    simp only [scanV]
    by_cases c : w0 ≤ l[i] ∧ l[i] < w1
    · by_cases z : i = 0
      · subst z
        rw [if_pos c, if_neg (by rintro ⟨y, hy, _⟩; simp [prevV] at hy)]
        refine Ev.step (fun k => ?_) ih'
        simp only [rate_CheckTimes.l0]
        rw [if_pos (by omega), if_pos (by omega), if_pos (by omega), hr, Has_eq]
        simp only [Option.bind_some, decide_eq_true_eq]
        rw [if_pos c, if_neg (by omega), hw]
      · have hlt2 : i - 1 < l.length := by omega
        have hr2 := rd_get l (i - 1) hlt2
        have hw2 : wrap64 ((i : Int) - 1) = ((i - 1 : Nat) : Int) := by rw [wrap_id (by omega) (by omega)]; omega
        have hp2 : prevV l i = some l[i - 1] := by simp [prevV, z, List.getElem?_eq_getElem hlt2]
        rw [if_pos c, hp2]
        by_cases o : l[i] < l[i - 1]
        · rw [if_pos ⟨_, rfl, o⟩]
          refine Ev.step (f := fun _ => some 7) (fun k => ?_) (Ev.now _)
          simp only [rate_CheckTimes.l0]
          rw [if_pos (by omega), if_pos (by omega), if_pos (by omega), hr, Has_eq]
          simp only [Option.bind_some, decide_eq_true_eq]
          rw [if_pos c, if_pos (by omega), hw2, if_pos (by omega), if_pos (by omega), hr2, if_pos o]
        · rw [if_neg (by rintro ⟨y, hy, h⟩; cases hy; exact o h)]
          refine Ev.step (fun k => ?_) ih'
          simp only [rate_CheckTimes.l0]
          rw [if_pos (by omega), if_pos (by omega), if_pos (by omega), hr, Has_eq]
          simp only [Option.bind_some, decide_eq_true_eq]
          rw [if_pos c, if_pos (by omega), hw2, if_pos (by omega), if_pos (by omega), hr2, if_neg o, hw]
    · rw [if_neg c]
      refine Ev.step (f := fun _ => some 1) (fun k => ?_) (Ev.now _)
      simp only [rate_CheckTimes.l0]
      rw [if_pos (by omega), if_pos (by omega), if_pos (by omega), hr, Has_eq]
      simp only [Option.bind_some, decide_eq_true_eq]
      rw [if_neg c]
theorem CheckTimes_ev (l : List Int) (hl : l.length ≤ 140737488351232) (w0 w1 : Int) : Ev (fun k => rate_CheckTimes.f k l w0 w1) (timesV l w0 w1) := by
  have h := CheckTimes_loop l hl w0 w1 l.length 0 (by omega)
  simp only [rate_CheckTimes.f, IsTime_eq, Option.bind_some, decide_eq_true_eq]
  unfold timesV
  by_cases c : 0 ≤ w0 ∧ w0 < w1 ∧ w1 ≤ 345686400000
  · simp only [if_pos c]
    by_cases d : l.length > 2000
    · have d' : (l.length : Int) > 2000 := by omega
      simp only [if_pos d, if_pos d']
      exact Ev.now _
    · have d' : ¬ (l.length : Int) > 2000 := by omega
      simp only [if_neg d, if_neg d']
      simpa [prevV] using h
  · simp only [if_neg c]
    exact Ev.now _
theorem TimesFault_loop (l : List Int) (hl : l.length ≤ 140737488351232) (w0 w1 : Int) (d : Nat) : ∀ i : Nat, i + d = l.length →
    Ev (fun k => pileref1_TimesFault.l0 k l w0 w1 (i : Int)) (scanV w0 w1 (prevV l i) (l.drop i)) := by
  induction d with
  | zero =>
    intro i hi
    refine Ev.step (f := fun _ => some _) (fun k => ?_) (Ev.now _)
    simp only [pileref1_TimesFault.l0]
    rw [if_neg (by omega), List.drop_of_length_le (by omega)]
    rfl
  | succ d ih =>
    intro i hi
    have hlt : i < l.length := by omega
    have hd : l.drop i = l[i] :: l.drop (i + 1) := List.drop_eq_getElem_cons hlt
    have hr := rd_get l i hlt
    have hw : wrap64 ((i : Int) + 1) = ((i + 1 : Nat) : Int) := by rw [wrap_id (by omega) (by omega)]; omega
    have hp : prevV l (i + 1) = some l[i] := by simp [prevV, List.getElem?_eq_getElem hlt]
    have ih' := ih (i + 1) (by omega)
    rw [hp] at ih'
    rw [hd]
    simp only [scanV]
    by_cases c : w0 ≤ l[i] ∧ l[i] < w1
    · by_cases z : i = 0
      · subst z
        rw [if_pos c, if_neg (by rintro ⟨y, hy, _⟩; simp [prevV] at hy)]
        refine Ev.step (fun k => ?_) ih'
        simp only [pileref1_TimesFault.l0]
        rw [if_pos (by omega), if_pos (by omega), if_pos (by omega), hr, inside_eq]
        simp only [Option.bind_some, decide_eq_true_eq]
        rw [if_pos c, if_neg (by omega), hw]
      · have hlt2 : i - 1 < l.length := by omega
        have hr2 := rd_get l (i - 1) hlt2
        have hw2 : wrap64 ((i : Int) - 1) = ((i - 1 : Nat) : Int) := by rw [wrap_id (by omega) (by omega)]; omega
        have hp2 : prevV l i = some l[i - 1] := by simp [prevV, z, List.getElem?_eq_getElem hlt2]
        rw [if_pos c, hp2]
        by_cases o : l[i] < l[i - 1]
        · rw [if_pos ⟨_, rfl, o⟩]
          refine Ev.step (f := fun _ => some 7) (fun k => ?_) (Ev.now _)
          simp only [pileref1_TimesFault.l0]
          rw [if_pos (by omega), if_pos (by omega), if_pos (by omega), hr, inside_eq]
          simp only [Option.bind_some, decide_eq_true_eq]
          rw [if_pos c, if_pos (by omega), hw2, if_pos (by omega), if_pos (by omega), hr2, if_pos o]
        · rw [if_neg (by rintro ⟨y, hy, h⟩; cases hy; exact o h)]
          refine Ev.step (fun k => ?_) ih'
          simp only [pileref1_TimesFault.l0]
          rw [if_pos (by omega), if_pos (by omega), if_pos (by omega), hr, inside_eq]
          simp only [Option.bind_some, decide_eq_true_eq]
          rw [if_pos c, if_pos (by omega), hw2, if_pos (by omega), if_pos (by omega), hr2, if_neg o, hw]
    · rw [if_neg c]
      refine Ev.step (f := fun _ => some 1) (fun k => ?_) (Ev.now _)
      simp only [pileref1_TimesFault.l0]
      rw [if_pos (by omega), if_pos (by omega), if_pos (by omega), hr, inside_eq]
      simp only [Option.bind_some, decide_eq_true_eq]
      rw [if_neg c]
theorem TimesFault_ev (l : List Int) (hl : l.length ≤ 140737488351232) (w0 w1 : Int) : Ev (fun k => pileref1_TimesFault.f k l w0 w1) (timesV l w0 w1) := by
  have h := TimesFault_loop l hl w0 w1 l.length 0 (by omega)
  simp only [pileref1_TimesFault.f, timeFault_eq, Option.bind_some]
  unfold timesV
  by_cases c : 0 ≤ w0 ∧ w0 < w1 ∧ w1 ≤ 345686400000
  · simp only [if_pos c, if_true]
    by_cases d : l.length > 2000
    · have d' : (l.length : Int) > 2000 := by omega
      simp only [if_pos d, if_pos d']
      exact Ev.now _
    · have d' : ¬ (l.length : Int) > 2000 := by omega
      simp only [if_neg d, if_neg d']
      simpa [prevV] using h
  · simp only [if_neg c, show ¬ ((1 : Int) = 0) by omega, if_false]
    exact Ev.now _
theorem countP_parts (l : List Int) (a : Int) (i : Nat) (hi : i ≤ l.length) (h1 : ∀ t (h : t < l.length), t < i → l[t] < a) (h2 : ∀ t (h : t < l.length), i ≤ t → a ≤ l[t]) : cntLt l a = i := by
  have e : l = l.take i ++ l.drop i := (List.take_append_drop i l).symm
  unfold cntLt
  rw [e, List.countP_append]
  have e1 : List.countP (fun x => decide (x < a)) (l.take i) = (l.take i).length := by
    rw [List.countP_eq_length]
    intro x hx
    obtain ⟨t, ht, rfl⟩ := List.getElem_of_mem hx
    rw [List.length_take] at ht
    simp only [List.getElem_take, decide_eq_true_eq]
    exact h1 t (by omega) (by omega)
  have e2 : List.countP (fun x => decide (x < a)) (l.drop i) = 0 := by
    rw [List.countP_eq_zero]
    intro x hx
    obtain ⟨t, ht, rfl⟩ := List.getElem_of_mem hx
    rw [List.length_drop] at ht
    simp only [List.getElem_drop, decide_eq_true_eq]
    have := h2 (i + t) (by omega) (by omega)
    omega
  rw [e1, e2, List.length_take]
  omega
theorem sorted_le {l : List Int} (hs : l.Pairwise (· ≤ ·)) (t m : Nat) (ht : t < l.length) (hm : m < l.length) (h : t ≤ m) : l[t] ≤ l[m] := by
  rcases Nat.lt_or_ge t m with h1 | h1
  · exact List.pairwise_iff_getElem.1 hs t m ht hm h1
  · have e : t = m := Nat.le_antisymm h h1
    subst e
    exact Int.le_refl _
theorem Less_eq (a b : Int) : cmp_Less_int.f a b = some (decide (a < b)) := by
  simp [cmp_Less_int.f, cmp_isNaN_int.f]
theorem u64_id (e : Int) (h0 : 0 ≤ e) (h1 : e < 18446744073709551616) : IntKind.u64.wrap e = e := by
  show e % 18446744073709551616 = e
  omega
theorem mid_eq (i j : Nat) (h : i + j ≤ 281474976710656) : wrap64 (Int.fdiv (IntKind.u64.wrap (wrap64 ((i : Int) + (j : Int)))) (2 ^ (min (Int.toNat 1) 64))) = (((i + j) / 2 : Nat) : Int) := by
  rw [wrap_id (e := (i : Int) + (j : Int)) (by omega) (by omega), u64_id _ (by omega) (by omega), show ((2 : Int) ^ (min (Int.toNat 1) 64)) = 2 from rfl, Int.fdiv_eq_ediv_of_nonneg _ (by omega), wrap_id (by omega) (by omega)]
  omega
theorem BinarySearch_loop (l : List Int) (hl : l.length ≤ 140737488351232) (a : Int) (hs : l.Pairwise (· ≤ ·)) (d : Nat) : ∀ i j : Nat, i ≤ j → j ≤ l.length → j - i ≤ d →
    (∀ t (h : t < l.length), t < i → l[t] < a) → (∀ t (h : t < l.length), j ≤ t → a ≤ l[t]) →
    ∃ b, Ev (fun k => slices_BinarySearch_int_int.l0 k l a (i : Int) (j : Int)) ((cntLt l a : Int), b) := by
  induction d with
  | zero =>
    intro i j h1 h2 h3 h4 h5
    have hij : i = j := by omega
    subst hij
    have hc := countP_parts l a i h2 h4 h5
    by_cases c : i < l.length
    · have hr := rd_get l i c
      by_cases e : l[i] = a
      · refine ⟨true, Ev.step (f := fun _ => some _) (fun k => ?_) (Ev.now _)⟩
        simp only [slices_BinarySearch_int_int.l0]
        rw [if_neg (by omega), if_pos (by omega), if_pos (by omega), if_pos (by omega), hr, if_pos e, hc]
      · refine ⟨false, Ev.step (f := fun _ => some _) (fun k => ?_) (Ev.now _)⟩
        simp only [slices_BinarySearch_int_int.l0, slices_isNaN_int.f]
        rw [if_neg (by omega), if_pos (by omega), if_pos (by omega), if_pos (by omega), hr, if_neg e, hc]
        simp
        omega
    · refine ⟨false, Ev.step (f := fun _ => some _) (fun k => ?_) (Ev.now _)⟩
      simp only [slices_BinarySearch_int_int.l0]
      rw [if_neg (by omega), if_neg (by omega), hc]
  | succ d ih =>
    intro i j h1 h2 h3 h4 h5
    by_cases hij : i = j
    · subst hij
      exact ih i i (by omega) h2 (by omega) h4 h5
    · obtain ⟨m, hmm⟩ : ∃ m, (i + j) / 2 = m := ⟨_, rfl⟩
      have hml : m < l.length := by omega
      have him : i ≤ m := by omega
      have hmj : m < j := by omega
      have hmid : wrap64 (Int.fdiv (IntKind.u64.wrap (wrap64 ((i : Int) + (j : Int)))) (2 ^ (min (Int.toNat 1) 64))) = (m : Int) := by
        rw [mid_eq i j (by omega), hmm]
      by_cases c : l[m] < a
      · obtain ⟨b, hb⟩ := ih (m + 1) j (by omega) h2 (by omega) (fun t ht h => Int.lt_of_le_of_lt (sorted_le hs t m ht hml (by omega)) c) h5
        refine ⟨b, Ev.step (fun k => ?_) hb⟩
        simp only [slices_BinarySearch_int_int.l0]
        rw [if_pos (by omega), hmid, if_pos (by omega), if_pos (by omega), rd_get l m hml, Less_eq]
        simp only [Option.bind_some, decide_eq_true_eq]
        rw [if_pos c, wrap_id (by omega) (by omega), show ((m : Int) + 1) = ((m + 1 : Nat) : Int) by omega]
      · obtain ⟨b, hb⟩ := ih i m him (by omega) (by omega) h4 (fun t ht h => Int.le_trans (Int.not_lt.1 c) (sorted_le hs m t hml ht h))
        refine ⟨b, Ev.step (fun k => ?_) hb⟩
        simp only [slices_BinarySearch_int_int.l0]
        rw [if_pos (by omega), hmid, if_pos (by omega), if_pos (by omega), rd_get l m hml, Less_eq]
        simp only [Option.bind_some, decide_eq_true_eq]
        rw [if_neg c]
theorem before_ev (l : List Int) (hl : l.length ≤ 140737488351232) (hs : l.Pairwise (· ≤ ·)) (a : Int) : Ev (fun k => rate_before.f k l a) (cntLt l a : Int) := by
  obtain ⟨b, hb⟩ := BinarySearch_loop l hl a hs l.length 0 l.length (by omega) (by omega) (by omega) (fun t _ h => by omega) (fun t h h' => by omega)
  exact Ev.bind hb (Ev.now _)
end Go.EV.Pure
namespace Go.EV.Pure
open Go Go.EV Go.RowKit
/-! The lists of times that the stream makes. -/
def endsOK (w0 b : Int) : Prop := b = 3600000 ∨ b = 5000000 ∨ b = 9000000 ∨ b = 30000000 ∨ b = w0 ∨ b = 345686400001
theorem TimesOf_j (k : Nat) (w0 b : Int) (L l : List Int) (s : Int) : pilemake_Stream_TimesOf.j14 (k + 1) w0 b L l s = some (L, w0, b, l, s) := rfl
theorem TimesOf_j_ev (w0 b : Int) (L l : List Int) (s : Int) : Ev (fun k => pilemake_Stream_TimesOf.j14 k w0 b L l s) (L, w0, b, l, s) := Ev.from 1 fun k => TimesOf_j k w0 b L l s
theorem TimesOf_end (l : List Int) (hl : l.length ≤ 140737488351232) (x w0 b : Int) (hb : endsOK w0 b) (L : List Int) (hL : L.length ≤ 12) (s : Int) (h0 : 0 ≤ s) (h1 : s ≤ 4611686018427380000) :
    ∃ (L' : List Int) (b' s' : Int), (∀ f : Nat → Option _, (∀ k, f (k + 1) = ((pilemake_Stream_Flip.f k l s 15).bind fun r10 => (if r10.1 = true then ((pilemake_Stream_Pick.f k r10.2.1 r10.2.2 [b, w0, 345686400001]).bind fun r11 => ((pilemake_Stream_Pick.f k r11.2.1 r11.2.2 [0, r11.1, x]).bind fun r12 => (if L.length + [r12.1].length ≤ 549755813888 then pilemake_Stream_TimesOf.j14 k w0 r11.1 (L ++ [r12.1]) r12.2.1 r12.2.2 else Option.none))) else pilemake_Stream_TimesOf.j14 k w0 b L r10.2.1 r10.2.2))) → Ev f (L', w0, b', l, s')) ∧
      L'.length ≤ 13 ∧ endsOK w0 b' ∧ s ≤ s' ∧ s' ≤ s + 3 := by
  obtain ⟨f, e1⟩ := Flip_spec l s 15 (by omega) (by omega) (by omega) hl
  cases f with
  | true =>
    obtain ⟨r2, e2, m2⟩ := Pick_spec l (s + 1) [b, w0, 345686400001] (by omega) (by omega) hl (by simp) (by simp)
    obtain ⟨r3, e3, _⟩ := Pick_spec l (s + 1 + 1) [0, r2, x] (by omega) (by omega) hl (by simp) (by simp)
    refine ⟨L ++ [r3], r2, s + 1 + 1 + 1, fun f hf => Ev.step hf (Ev.bind e1 (Ev.pos rfl (Ev.bind e2 (Ev.bind e3 (Ev.pos (by simp; omega) (TimesOf_j_ev _ _ _ _ _)))))), by simp; omega, ?_, by omega, by omega⟩
    simp only [List.mem_cons, List.not_mem_nil, or_false] at m2
    unfold endsOK at hb ⊢
    omega
  | false =>
    exact ⟨L, b, s + 1, fun f hf => Ev.step hf (Ev.bind e1 (Ev.neg Bool.false_ne_true (TimesOf_j_ev _ _ _ _ _))), by omega, hb, by omega, by omega⟩
theorem TimesOf_l1 (l : List Int) (hl : l.length ≤ 140737488351232) (x w0 b : Int) (hb : endsOK w0 b) (s : Int) (h0 : 0 ≤ s) (h1 : s ≤ 4611686018427380000) (n : Nat) : ∀ L : List Int, L.length = n → n ≤ 12 →
    ∃ (L' : List Int) (b' s' : Int), Ev (fun k => pilemake_Stream_TimesOf.l1 k x w0 b l s L) (L', w0, b', l, s') ∧ L'.length ≤ 13 ∧ endsOK w0 b' ∧ s ≤ s' ∧ s' ≤ s + 3 := by
  induction n with
  | zero =>
    intro L hL _
    obtain ⟨L', b', s', h, q⟩ := TimesOf_end l hl x w0 b hb L (by omega) s h0 h1
    refine ⟨L', b', s', h _ (fun k => ?_), q⟩
    simp only [pilemake_Stream_TimesOf.l1]
    rw [if_neg (by omega)]
  | succ n ih =>
    intro L hL hn
    have hw : wrap64 ((L.length : Int) - 1) = (n : Int) := by rw [wrap_id (by omega) (by omega)]; omega
    by_cases c : rd L (n : Int) ≥ b
    · obtain ⟨L', b', s', h, q⟩ := ih (L.take n) (by simp; omega) (by omega)
      refine ⟨L', b', s', Ev.step (fun k => ?_) h, q⟩
      simp only [pilemake_Stream_TimesOf.l1, hw]
      rw [if_pos (by omega), if_pos (by omega), if_pos (by omega), if_pos c, if_pos (by omega), if_pos (by omega), Int.toNat_natCast]
    · obtain ⟨L', b', s', h, q⟩ := TimesOf_end l hl x w0 b hb L (by omega) s h0 h1
      refine ⟨L', b', s', h _ (fun k => ?_), q⟩
      simp only [pilemake_Stream_TimesOf.l1, hw]
      rw [if_pos (by omega), if_pos (by omega), if_pos (by omega), if_neg c]
theorem TimesOf_l0 (l : List Int) (hl : l.length ≤ 140737488351232) (m w0 b : Int) (hm : 0 ≤ m ∧ m ≤ 12) (hb : endsOK w0 b) (d : Nat) : ∀ (i : Int) (L : List Int) (x s : Int), 0 ≤ i → i + d = m → L.length ≤ i → 0 ≤ s → s + d ≤ 4611686018427380000 →
    ∃ (L' : List Int) (b' s' : Int), Ev (fun k => pilemake_Stream_TimesOf.l0 k x m i w0 b L l s) (L', w0, b', l, s') ∧ L'.length ≤ 13 ∧ endsOK w0 b' ∧ s ≤ s' ∧ s' ≤ s + d + 3 := by
  induction d with
  | zero =>
    intro i L x s hi hd hL h0 h1
    obtain ⟨L', b', s', h, q1, q2, q3, q4⟩ := TimesOf_l1 l hl x w0 b hb s h0 (by omega) L.length L rfl (by omega)
    refine ⟨L', b', s', Ev.step (fun k => ?_) h, q1, q2, by omega, by omega⟩
    simp only [pilemake_Stream_TimesOf.l0]
    rw [if_neg (by omega)]
  | succ d ih =>
    intro i L x s hi hd hL h0 h1
    obtain ⟨r, e, _⟩ := Pick_spec l s [0, 1, 1000, 60000, 300000, 1800000] (by omega) (by omega) hl (by simp) (by simp)
    obtain ⟨L', b', s', h, q1, q2, q3, q4⟩ := ih (i + 1) (L ++ [wrap64 (x + r)]) (wrap64 (x + r)) (s + 1) (by omega) (by omega) (by simp; omega) (by omega) (by omega)
    have hw : wrap64 (i + 1) = i + 1 := wrap_id (by omega) (by omega)
    refine ⟨L', b', s', Ev.succ ?_, q1, q2, by omega, by omega⟩
    simp only [pilemake_Stream_TimesOf.l0, hw]
    exact Ev.pos (by omega) (Ev.bind e (Ev.pos (show L.length + 1 ≤ 549755813888 by omega) h))
theorem TimesOf_spec (l : List Int) (s : Int) (h0 : 0 ≤ s) (h1 : s ≤ 4611686018427370000) (hl : l.length ≤ 140737488351232) :
    ∃ (L : List Int) (a b s' : Int), Ev (fun k => pilemake_Stream_TimesOf.f k l s) (L, a, b, l, s') ∧ L.length ≤ 13 ∧ (a = 0 ∨ a = 1000) ∧ endsOK a b ∧ s ≤ s' ∧ s' ≤ s + 20 := by
  obtain ⟨r1, e1, m1⟩ := Pick_spec l s [0, 1000] (by omega) (by omega) hl (by simp) (by simp)
  obtain ⟨r2, e2, m2⟩ := Pick_spec l (s + 1) [3600000, 5000000, 9000000, 30000000] (by omega) (by omega) hl (by simp) (by simp)
  obtain ⟨r3, e3, r3a, r3b⟩ := Range_spec l (s + 1 + 1) 0 12 (by omega) (by omega) (by omega) (by omega) (by omega) hl
  simp only [List.mem_cons, List.not_mem_nil, or_false] at m1 m2
  obtain ⟨L', b', s', h, q1, q2, q3, q4⟩ := TimesOf_l0 l hl r3 r1 r2 ⟨r3a, r3b⟩ (by unfold endsOK; omega) r3.toNat 0 [] r1 (s + 1 + 1 + 1) (by omega) (by omega) (by simp) (by omega) (by omega)
  exact ⟨L', r1, b', s', Ev.bind e1 (Ev.bind e2 (Ev.bind e3 h)), q1, m1, q2, by omega, by omega⟩
/-- Times that are right. -/
theorem RightTimes_spec (l : List Int) (hl : l.length ≤ 140737488351232) (d : Nat) : ∀ (i s : Int), i + d = 6 → 0 ≤ s → s + 20 * d ≤ 4611686018427370000 →
    ∃ (L : List Int) (a b s' : Int), Ev (fun k => pilemake_Stream_RightTimes.l0 k i l s) (L, a, b, l, s') ∧ L.length ≤ 13 ∧ timesV L a b = 0 ∧ (a = 0 ∨ a = 1000) ∧ b ≤ 30000000 ∧ s ≤ s' ∧ s' ≤ s + 20 * d := by
  induction d with
  | zero =>
    intro i s hi h0 h1
    refine ⟨[], 0, 3600000, s, Ev.step (f := fun _ => some _) (fun k => ?_) (Ev.now _), by simp, by decide, .inl rfl, by omega, by omega, by omega⟩
    simp only [pilemake_Stream_RightTimes.l0]
    rw [if_neg (by omega)]
  | succ d ih =>
    intro i s hi h0 h1
    obtain ⟨L, a, b, s1, e1, q1, q2, q3, q4, q5⟩ := TimesOf_spec l s h0 (by omega) hl
    have e2 := TimesFault_ev L (by omega) a b
    by_cases c : timesV L a b = 0
    · refine ⟨L, a, b, s1, Ev.succ ?_, q1, c, q2, ?_, by omega, by omega⟩
      · simp only [pilemake_Stream_RightTimes.l0]
        exact Ev.pos (by omega) (Ev.bind e1 (Ev.bind e2 (Ev.pos c (Ev.now _))))
      · have := (times_ok c).1
        unfold endsOK at q3
        omega
    · obtain ⟨L2, a2, b2, s2, e3, w1, w2, w3, w4, w5, w6⟩ := ih (i + 1) s1 (by omega) (by omega) (by omega)
      refine ⟨L2, a2, b2, s2, Ev.succ ?_, w1, w2, w3, w4, by omega, by omega⟩
      simp only [pilemake_Stream_RightTimes.l0, wrap_id (e := i + 1) (by omega) (by omega)]
      exact Ev.pos (by omega) (Ev.bind e1 (Ev.bind e2 (Ev.neg c e3)))
end Go.EV.Pure
namespace Go.EV.Pure
open Go Go.EV Go.RowKit
/-! Hours, counts and the best stretch of right times. -/
structure VT (l : List Int) (w0 w1 : Int) : Prop where
  w : 0 ≤ w0 ∧ w0 < w1 ∧ w1 ≤ 345686400000
  n : l.length ≤ 2000
  b : ∀ x ∈ l, w0 ≤ x ∧ x < w1
  s : l.Pairwise (· ≤ ·)
  t : timesV l w0 w1 = 0
theorem VT.of {l : List Int} {w0 w1 : Int} (h : timesV l w0 w1 = 0) : VT l w0 w1 := let ⟨a, b, c, d⟩ := times_ok h; ⟨a, b, c, d, h⟩
theorem VT.check {l : List Int} {w0 w1 : Int} (h : VT l w0 w1) : Ev (fun k => rate_CheckTimes.f k l w0 w1) 0 := by
  have := CheckTimes_ev l (by have := h.n; omega) w0 w1
  rwa [h.t] at this
theorem Outside_eq (a lo hi : Int) : kit_Outside.f a lo hi = some (decide (a < lo ∨ hi < a)) := by
  unfold kit_Outside.f
  split <;> simp [*]
/-- How many hours a window has, the last one perhaps shorter. -/
def hoursN (w0 w1 : Int) : Int := (w1 - w0 + 3599999) / 3600000
theorem hoursOf_eq (w0 w1 : Int) (h : 0 ≤ w0 ∧ w0 < w1 ∧ w1 ≤ 345686400000) : rate_hoursOf.f w0 w1 = some (hoursN w0 w1) := by
  unfold rate_hoursOf.f
  rw [wrap_id (e := w1 - w0) (by omega) (by omega), wrap_id (e := w1 - w0 + 3600000) (by omega) (by omega), wrap_id (e := w1 - w0 + 3600000 - 1) (by omega) (by omega), tdiv_pos (by omega), wrap_id (by omega) (by omega)]
  unfold hoursN
  simp only [Option.some.injEq]
  omega
end Go.EV.Pure
namespace Go.EV.Pure
open Go Go.EV Go.RowKit
/-! Goals, and who is ahead. -/
theorem cntLt_all {l : List Int} {a : Int} (h : ∀ x ∈ l, x < a) : cntLt l a = l.length := by
  unfold cntLt
  rw [List.countP_eq_length]
  intro x hx
  simpa using h x hx
theorem cntLt_pos {l : List Int} {a x : Int} (hx : x ∈ l) (h : x < a) : 0 < cntLt l a := by
  unfold cntLt
  rw [List.countP_pos_iff]
  exact ⟨x, hx, by simpa using h⟩
theorem Floor_some (a b : Int) (hb : b ≠ 0) : ∃ r, Ev (fun k => kit_Floor.f k a b) r := by
  unfold kit_Floor.f
  simp only [if_neg hb]
  by_cases c : Int.tmod a b < 0
  · simp only [if_pos c]
    exact ⟨_, Ev.from (v := wrap64 ((wrap64 (Int.tdiv a b)) - 1)) 1 fun k => rfl⟩
  · simp only [if_neg c]
    exact ⟨_, Ev.from (v := wrap64 (Int.tdiv a b)) 1 fun k => rfl⟩
theorem Floor_mul (q b : Int) (hb : 0 < b) (hq : -9223372036854775808 ≤ q) (hq2 : q ≤ 9223372036854775807) : Ev (fun k => kit_Floor.f k (q * b) b) q := by
  unfold kit_Floor.f
  have h0 : Int.tmod (q * b) b = 0 := Int.mul_tmod_left ..
  have h1 : Int.tdiv (q * b) b = q := Int.mul_tdiv_cancel _ (by omega)
  simp only [if_neg (show ¬ b = 0 by omega), h0, h1, if_neg (show ¬ (0 : Int) < 0 by omega), wrap_id hq hq2]
  exact Ev.from 1 fun k => rfl
theorem Goal_spec (t : List Int) (w0 w1 : Int) (h : VT t w0 w1) (hn : hoursN w0 w1 ≤ 1000) (g : Int) (g0 : 0 ≤ g) (g1 : g ≤ 20) :
    ∃ G : List Int, Ev (fun k => rate_Goal.f k t w0 w1 g) (G, 0) ∧ (∃ G0, G = G0 ++ [(t.length : Int) - g]) ∧ G.length ≤ 1000 := by
  have hw := h.w
  have hn2 := h.n
  have hlast : ∀ {i : Nat}, (i : Int) + 1 = hoursN w0 w1 → w1 ≤ w0 + (i + 1) * 3600000 := by intro i hi; unfold hoursN at hi; omega
  have hmore : ∀ {i : Nat}, (i : Int) + 1 < hoursN w0 w1 → w0 + (i + 1) * 3600000 < w1 := by intro i hi; unfold hoursN at hi; omega
  have hpos : 0 < hoursN w0 w1 := by unfold hoursN; omega
  obtain ⟨H, hH⟩ : ∃ H : Nat, hoursN w0 w1 = (H : Int) := ⟨(hoursN w0 w1).toNat, by omega⟩
  have hbig : (H : Int) * 3600000 ≤ 3600000000 := by omega
  obtain ⟨v, ⟨h1, h2, h3⟩, hv⟩ := loop (List.replicate H ()) (fun k i o => rate_Goal.l0 k t w0 w1 g (H : Int) i o) (fun i o => o.length = i ∧ (i = H → ∃ G0, o = G0 ++ [(t.length : Int) - g]))
    (fun v => v.2 = 0 ∧ (∃ G0, v.1 = G0 ++ [(t.length : Int) - g]) ∧ v.1.length ≤ 1000)
    (fun i o hi ⟨i1, i2⟩ => .inl (by
      rw [List.length_replicate] at hi
      have e1 : wrap64 (((i + 1 : Nat) : Int) * 3600000) = (((i + 1 : Nat) : Int)) * 3600000 := wrap_id (by omega) (by omega)
      have e2 : wrap64 (w0 + ((i + 1 : Nat) : Int) * 3600000) = w0 + ((i + 1 : Nat) : Int) * 3600000 := wrap_id (by omega) (by omega)
      have hb := before_ev t (by omega) h.s (mn (w0 + ((i + 1 : Nat) : Int) * 3600000) w1)
      by_cases c : i + 1 = H
      · have hm : mn (w0 + ((i + 1 : Nat) : Int) * 3600000) w1 = w1 := by
          rw [mn_eq]
          have := hlast (i := i) (by omega)
          split <;> omega
        rw [hm, cntLt_all fun x hx => (h.b x hx).2] at hb
        have ha : (t.length : Int) * (w1 - w0) ≤ 2000 * 345686400000 := Int.mul_le_mul (by omega) (by omega) (by omega) (by omega)
        have ha0 : 0 ≤ (t.length : Int) * (w1 - w0) := Int.mul_nonneg (by omega) (by omega)
        have hg : g * (w1 - w0) ≤ 20 * 345686400000 := Int.mul_le_mul (by omega) (by omega) (by omega) (by omega)
        have hg0 : 0 ≤ g * (w1 - w0) := Int.mul_nonneg (by omega) (by omega)
        have hq : wrap64 ((wrap64 ((t.length : Int) * (w1 - w0))) - (wrap64 (g * (w1 - w0)))) = ((t.length : Int) - g) * (w1 - w0) := by
          rw [wrap_id (e := (t.length : Int) * (w1 - w0)) (by omega) (by omega), wrap_id (e := g * (w1 - w0)) (by omega) (by omega), wrap_id (by omega) (by omega), Int.sub_mul]
        refine ⟨o ++ [(t.length : Int) - g], ⟨by simp [i1], fun _ => ⟨o, rfl⟩⟩, fun v hv => Ev.succ ?_⟩
        simp only [rate_Goal.l0, wrap_succ (show i ≤ 1000000000000000 by omega), e1, e2, hm, wrap_id (e := w1 - w0) (by omega) (by omega)]
        refine Ev.pos (by omega) (Ev.bind hb ?_)
        simp only [hq]
        exact Ev.bind (Floor_mul _ _ (by omega) (by omega) (by omega)) (Ev.pos (by omega) hv)
      · obtain ⟨r, hr⟩ := Floor_some (wrap64 ((wrap64 ((cntLt t (mn (w0 + ((i + 1 : Nat) : Int) * 3600000) w1) : Int) * (w1 - w0))) - (wrap64 (g * (wrap64 ((mn (w0 + ((i + 1 : Nat) : Int) * 3600000) w1) - w0)))))) (w1 - w0) (by omega)
        refine ⟨o ++ [r], ⟨by simp [i1], fun e => absurd e c⟩, fun v hv => Ev.succ ?_⟩
        simp only [rate_Goal.l0, wrap_succ (show i ≤ 1000000000000000 by omega), e1, e2, wrap_id (e := w1 - w0) (by omega) (by omega)]
        exact Ev.pos (by omega) (Ev.bind hb (Ev.bind hr (Ev.pos (by omega) hv)))))
    (fun o ⟨i1, i2⟩ => ⟨(o, 0), ⟨rfl, i2 (by simp), by simp at i1; simp only; omega⟩, Ev.step (f := fun _ => some _) (fun k => by simp only [rate_Goal.l0, List.length_replicate]; rw [if_neg (by omega)]) (Ev.now _)⟩)
    0 [] (by omega) ⟨rfl, fun e => absurd e (by omega)⟩
  refine ⟨v.1, ?_, h2, h3⟩
  have e : v = (v.1, 0) := by rw [← h1]
  rw [e] at hv
  have hO : (kit_Outside.f g 0 99999) = some false := by rw [Outside_eq]; simp; omega
  unfold rate_Goal.f
  simp only [hO, hoursOf_eq w0 w1 hw, Option.bind_some, hH]
  exact Ev.bind h.check (Ev.pos rfl (Ev.neg (by simp) (Ev.neg (by omega) hv)))
theorem Concat_ev (a b : List Int) (ha : a.length ≤ 100000) (hb : b.length ≤ 100000) : Ev (fun k => slices_Concat_int_int.f k [a, b]) (a ++ b, []) := by
  have r0 : rdE e_L [a, b] 0 = a := rfl
  have r1 : rdE e_L [a, b] 1 = b := rfl
  have w1 : wrap64 (0 + (a.length : Int)) = (a.length : Int) := by rw [Int.zero_add]; exact wrap_id (by omega) (by omega)
  have w2 : wrap64 ((a.length : Int) + (b.length : Int)) = (a.length : Int) + (b.length : Int) := wrap_id (by omega) (by omega)
  have w3 : wrap64 (0 + 1) = 1 := wrap_id (by omega) (by omega)
  have w4 : wrap64 (1 + 1) = 2 := wrap_id (by omega) (by omega)
  have hG : slices_Grow_int_int.f ((a.length : Int) + (b.length : Int)) = some ([], List.replicate (a.length + b.length) eI.d) := by
    unfold slices_Grow_int_int.f
    rw [if_pos (by omega)]
    congr 3
  have l1 : Ev (fun k => slices_Concat_int_int.l1 k [a, b] 0 (List.replicate (a.length + b.length) eI.d) []) (a ++ b, []) := by
    refine Ev.succ ?_
    simp only [slices_Concat_int_int.l1, r0, w3]
    refine Ev.pos (by simp) (Ev.pos (by omega) (Ev.pos (by simp) (Ev.pos (by simp; omega) (Ev.succ ?_))))
    simp only [slices_Concat_int_int.l1, r1, w4]
    refine Ev.pos (by simp) (Ev.pos (by omega) (Ev.pos (by simp) (Ev.pos (by simp; omega) (Ev.succ ?_))))
    simp only [slices_Concat_int_int.l1]
    refine Ev.neg (by simp) ?_
    have : List.drop b.length (List.drop a.length (List.replicate (a.length + b.length) eI.d)) = [] := by simp
    rw [this]
    exact Ev.now _
  unfold slices_Concat_int_int.f
  refine Ev.succ ?_
  simp only [slices_Concat_int_int.l0, r0, w1]
  refine Ev.pos (by simp) (Ev.pos (by omega) (Ev.pos (by simp) (Ev.neg (by omega) (Ev.succ ?_))))
  simp only [slices_Concat_int_int.j8, r0, w1, w3]
  refine Ev.succ ?_
  simp only [slices_Concat_int_int.l0, r1, w2]
  refine Ev.pos (by simp) (Ev.pos (by omega) (Ev.pos (by simp) (Ev.neg (by omega) (Ev.succ ?_))))
  simp only [slices_Concat_int_int.j8, r1, w2, w4]
  refine Ev.succ ?_
  simp only [slices_Concat_int_int.l0, hG, Option.bind_some]
  exact Ev.neg (by simp) l1
theorem compact_mem {l : List Int} {x : Int} (h : x ∈ Lib.compact l) : x ∈ l := by
  unfold Lib.compact Lib.compactUpTo at h
  obtain ⟨i, hi, rfl⟩ := List.mem_map.1 h
  have hi := List.mem_range.1 (List.mem_filter.1 hi).1
  have : l.toArray[i]! = l[i] := by simp [hi]
  rw [this]
  exact List.getElem_mem hi
theorem compact_cons (x : Int) (l : List Int) : ∃ r, Lib.compact (x :: l) = x :: r := by
  unfold Lib.compact Lib.compactUpTo
  rw [List.length_cons, List.range_succ_eq_map, List.filter_cons_of_pos (Lib.keeps_lt_one _ 0 (by omega))]
  exact ⟨_, rfl⟩
theorem compact_len (l : List Int) : (Lib.compact l).length ≤ l.length := by
  unfold Lib.compact Lib.compactUpTo
  rw [List.length_map]
  exact Nat.le_trans (List.length_filter_le _ _) (by simp)
/-- What is drawn from the moments of both. -/
def momentsOf (a b : List Int) : List Int := Lib.compact ((a ++ b).mergeSort fun x y => decide (x ≤ y))
theorem momentsOf_mem {a b : List Int} {x : Int} (h : x ∈ momentsOf a b) : x ∈ a ∨ x ∈ b := by
  have := compact_mem h
  rw [List.mem_mergeSort] at this
  simpa using this
theorem momentsOf_len (a b : List Int) : (momentsOf a b).length ≤ a.length + b.length := by
  have := compact_len ((a ++ b).mergeSort fun x y => decide (x ≤ y))
  unfold momentsOf
  simpa using this
theorem Ahead_of (a b : List Int) (w0 w1 : Int) (ha : VT a w0 w1) (hb : VT b w0 w1) (R : List (Int × Int))
    (hl : ∀ r9 : List Int × List Int, r9.1 = momentsOf a b → Ev (fun k => rate_Ahead.l1 k a b w0 w1 false (r9.1.length : Int) 0 [] r9.2 r9.1) (R, 0)) : Ev (fun k => rate_Ahead.f k a b w0 w1) (R, 0) := by
  have na := ha.n
  have nb := hb.n
  have r0 : rdE e_L [a, b] 0 = a := rfl
  have r1 : rdE e_L [a, b] 1 = b := rfl
  have w3 : wrap64 (0 + 1) = 1 := wrap_id (by omega) (by omega)
  have w4 : wrap64 (1 + 1) = 2 := wrap_id (by omega) (by omega)
  have hs : slices_Sort_int_int.f (a ++ b) = some ((a ++ b).mergeSort fun x y => decide (x ≤ y)) := by
    unfold slices_Sort_int_int.f
    rw [if_pos (by simp; omega)]
  obtain ⟨c, hc1, hc2⟩ : ∃ c, slices_Compact_int_int.f ((a ++ b).mergeSort fun x y => decide (x ≤ y)) = some c ∧ c.1 = momentsOf a b := by
    unfold slices_Compact_int_int.f
    rw [if_pos (by simp; omega)]
    exact ⟨_, rfl, rfl⟩
  unfold rate_Ahead.f
  refine Ev.succ ?_
  simp only [rate_Ahead.l0, r0, w3]
  refine Ev.pos (by simp) (Ev.pos (by omega) (Ev.pos (by simp) (Ev.bind ha.check (Ev.pos rfl (Ev.succ ?_)))))
  simp only [rate_Ahead.l0, r1, w4]
  refine Ev.pos (by simp) (Ev.pos (by omega) (Ev.pos (by simp) (Ev.bind hb.check (Ev.pos rfl (Ev.succ ?_)))))
  simp only [rate_Ahead.l0]
  refine Ev.neg (by simp) (Ev.bind (Concat_ev a b (by omega) (by omega)) (Ev.pos rfl ?_))
  simp only [hs, Option.bind_some, hc1]
  exact Ev.pos (by simp) (hl c hc2)
/-- Who is ahead all the time. -/
theorem Ahead_all (a b : List Int) (w0 w1 : Int) (ha : VT a w0 w1) (hb : VT b w0 w1) (h : ∀ x ∈ momentsOf a b, cntLt b (x + 1) < cntLt a (x + 1)) :
    Ev (fun k => rate_Ahead.f k a b w0 w1) (((momentsOf a b).head?.map fun x => (x, w1)).toList, 0) := by
  refine Ahead_of a b w0 w1 ha hb _ fun r9 e9 => ?_
  obtain ⟨M, t⟩ := r9
  simp only at e9
  subst e9
  have hml := momentsOf_len a b
  have na := ha.n
  have nb := hb.n
  have hw := ha.w
  obtain ⟨v, hp, hv⟩ := loop (momentsOf a b) (fun k i (s : Bool × List (Int × Int)) => rate_Ahead.l1 k a b w0 w1 s.1 ((momentsOf a b).length : Int) i s.2 t (momentsOf a b))
    (fun i s => (i = 0 ∧ s = (false, [])) ∨ (0 < i ∧ s = (true, ((momentsOf a b).head?.map fun x => (x, w1)).toList))) (fun v => v = (((momentsOf a b).head?.map fun x => (x, w1)).toList, 0))
    (fun i s hi hs => .inl (by
      have hx : (momentsOf a b)[i] ∈ momentsOf a b := List.getElem_mem hi
      have hb2 : w0 ≤ (momentsOf a b)[i] ∧ (momentsOf a b)[i] < w1 := by
        rcases momentsOf_mem hx with q | q
        · exact ha.b _ q
        · exact hb.b _ q
      have hlt := h _ hx
      have ea := before_ev a (by omega) ha.s ((momentsOf a b)[i] + 1)
      have eb := before_ev b (by omega) hb.s ((momentsOf a b)[i] + 1)
      have hw1 : wrap64 ((momentsOf a b)[i] + 1) = (momentsOf a b)[i] + 1 := wrap_id (by omega) (by omega)
      refine ⟨(true, ((momentsOf a b).head?.map fun x => (x, w1)).toList), .inr ⟨by omega, rfl⟩, fun v hv => Ev.succ ?_⟩
      rcases hs with ⟨rfl, rfl⟩ | ⟨h0, rfl⟩
      · simp only [rate_Ahead.l1, rd_get _ _ hi, hw1]
        have hd : decide ((cntLt a ((momentsOf a b)[0] + 1) : Int) > (cntLt b ((momentsOf a b)[0] + 1) : Int)) = true := by simpa using hlt
        refine Ev.pos (by omega) (Ev.pos (by omega) (Ev.pos (by omega) (Ev.bind ea (Ev.bind eb (Ev.pos (by omega) (Ev.neg (by simp) (Ev.pos (by simp) (Ev.succ ?_))))))))
        simp only [rate_Ahead.j20, hd]
        rw [wrap_succ (by omega)]
        have e : ([] ++ [((momentsOf a b)[0], w1)] : List (Int × Int)) = ((momentsOf a b).head?.map fun x => (x, w1)).toList := by
          rw [List.head?_eq_getElem?, List.getElem?_eq_getElem hi]
          rfl
        rw [e]
        exact hv
      · simp only [rate_Ahead.l1, rd_get _ _ hi, hw1]
        have hd : decide ((cntLt a ((momentsOf a b)[i] + 1) : Int) > (cntLt b ((momentsOf a b)[i] + 1) : Int)) = true := by simpa using hlt
        refine Ev.pos (by omega) (Ev.pos (by omega) (Ev.pos (by omega) (Ev.bind ea (Ev.bind eb (Ev.pos (by omega) (Ev.pos (by simp) (Ev.pos (by omega) (Ev.succ ?_))))))))
        simp only [rate_Ahead.j20, hd]
        rw [wrap_succ (by omega)]
        exact hv))
    (fun s hs => ⟨_, rfl, Ev.step (f := fun _ => some _) (fun k => by
      simp only [rate_Ahead.l1]
      rw [if_neg (by omega)]
      rcases hs with ⟨h0, rfl⟩ | ⟨h0, rfl⟩
      · have : momentsOf a b = [] := List.eq_nil_of_length_eq_zero h0
        rw [this]
        rfl
      · rfl) (Ev.now _)⟩)
    0 (false, []) (by omega) (.inl ⟨rfl, rfl⟩)
  rw [hp] at hv
  exact hv
theorem Ahead_none (a b : List Int) (w0 w1 : Int) (ha : VT a w0 w1) (hb : VT b w0 w1) (h : ∀ x ∈ momentsOf a b, ¬ cntLt b (x + 1) < cntLt a (x + 1)) :
    Ev (fun k => rate_Ahead.f k a b w0 w1) ([], 0) := by
  refine Ahead_of a b w0 w1 ha hb _ fun r9 e9 => ?_
  obtain ⟨M, t⟩ := r9
  simp only at e9
  subst e9
  have hml := momentsOf_len a b
  have na := ha.n
  have nb := hb.n
  have hw := ha.w
  obtain ⟨v, hp, hv⟩ := loop (momentsOf a b) (fun k i (s : Bool × List (Int × Int)) => rate_Ahead.l1 k a b w0 w1 s.1 ((momentsOf a b).length : Int) i s.2 t (momentsOf a b))
    (fun i s => s = (false, [])) (fun v => v = ([], 0))
    (fun i s hi hs => .inl (by
      have hx : (momentsOf a b)[i] ∈ momentsOf a b := List.getElem_mem hi
      have hb2 : w0 ≤ (momentsOf a b)[i] ∧ (momentsOf a b)[i] < w1 := by
        rcases momentsOf_mem hx with q | q
        · exact ha.b _ q
        · exact hb.b _ q
      have hlt := h _ hx
      have ea := before_ev a (by omega) ha.s ((momentsOf a b)[i] + 1)
      have eb := before_ev b (by omega) hb.s ((momentsOf a b)[i] + 1)
      have hw1 : wrap64 ((momentsOf a b)[i] + 1) = (momentsOf a b)[i] + 1 := wrap_id (by omega) (by omega)
      refine ⟨(false, []), rfl, fun v hv => Ev.succ ?_⟩
      subst hs
      simp only [rate_Ahead.l1, rd_get _ _ hi, hw1]
      have hd : decide ((cntLt a ((momentsOf a b)[i] + 1) : Int) > (cntLt b ((momentsOf a b)[i] + 1) : Int)) = false := by simpa using hlt
      refine Ev.pos (by omega) (Ev.pos (by omega) (Ev.pos (by omega) (Ev.bind ea (Ev.bind eb (Ev.neg (by omega) (Ev.neg (by omega) (Ev.neg (by simp) (Ev.succ ?_))))))))
      simp only [rate_Ahead.j20, hd]
      rw [wrap_succ (by omega)]
      exact hv))
    (fun s hs => ⟨_, rfl, Ev.step (f := fun _ => some _) (fun k => by
      simp only [rate_Ahead.l1]
      rw [if_neg (by omega), hs]) (Ev.now _)⟩)
    0 (false, []) (by omega) rfl
  rw [hp] at hv
  exact hv
end Go.EV.Pure
namespace Go.EV.Pure
open Go Go.EV Go.RowKit
set_option maxRecDepth 100000
theorem ready_ev : Ev (fun k => pilekeep1_ready.f k) true := Ev.from 300 fun k => (by kernel_rfl : pilekeep1_ready.f (k + 300) = some true)
end Go.EV.Pure
namespace Go.EV.Pure
open Go Go.EV Go.RowKit
theorem VT.nil {l : List Int} {w0 w1 : Int} (h : VT l w0 w1) : VT [] w0 w1 := VT.of (by unfold timesV; rw [if_pos h.w]; rfl)
theorem EqualW_one (x y : Int) : Ev (fun k => slices_Equal_api_Window_api_Window.f k [(x, y)] [(x, y)]) true := by
  unfold slices_Equal_api_Window_api_Window.f
  refine Ev.pos rfl (Ev.succ ?_)
  simp only [slices_Equal_api_Window_api_Window.l0]
  refine Ev.pos (by simp) (Ev.pos (by omega) (Ev.pos (by simp) (Ev.pos (by omega) (Ev.pos (by simp) (Ev.pos ?_ (Ev.succ ?_))))))
  · simp
  · simp only [slices_Equal_api_Window_api_Window.l0]
    exact Ev.neg (by rw [wrap_id (by omega) (by omega)]; simp) (Ev.now _)
theorem EvenGoalsAreMet (l : List Int) (hl : l.length ≤ 140737488351232) : ∃ k, pilekeep1_EvenGoalsAreMet.f k l = some true := by
  obtain ⟨t, w0, w1, s, e1, q1, q2, q3, q4, q5, q6⟩ := RightTimes_spec l hl 6 0 0 (by omega) (by omega) (by omega)
  have h := VT.of q2
  have hw := h.w
  have hR : Ev (fun k => (pilekeep1_ready.f k).bind fun r => Option.some r) true := Ev.bind ready_ev (Ev.now _)
  obtain ⟨g, e2, g0, g1⟩ := Range_spec l s 0 20 (by omega) (by omega) (by omega) (by omega) (by omega) hl
  obtain ⟨G, e3, ⟨G0, hG⟩, hGl⟩ := Goal_spec t w0 w1 h (by unfold hoursN; omega) g g0 g1
  have e4 := Ahead_all t [] w0 w1 h h.nil (fun x hx => by
    rcases momentsOf_mem hx with q | q
    · have := cntLt_pos q (show x < x + 1 by omega)
      have z : cntLt [] (x + 1) = 0 := rfl
      omega
    · cases q)
  have e5 := Ahead_none t t w0 w1 h h (fun x _ => by omega)
  have hM : (momentsOf t []).head? = t.head? := by
    unfold momentsOf
    rw [List.append_nil, List.mergeSort_of_pairwise (by simpa using h.s)]
    cases t with
    | nil => rfl
    | cons x t =>
      obtain ⟨r, hr⟩ := compact_cons x t
      rw [hr]
      rfl
  rw [hM] at e4
  have hlen : (G.length : Int) = (G0.length : Int) + 1 := by rw [hG]; simp
  have hwr : wrap64 ((G.length : Int) - 1) = (G0.length : Int) := by rw [wrap_id (by omega) (by omega)]; omega
  have hrd : rd G (G0.length : Int) = (t.length : Int) - g := by
    rw [rd_get G G0.length (by omega)]
    simp [hG]
  refine (Ev.bind (f := fun k => pilemake_Stream_RightTimes.f k l 0) e1 (Ev.bind e2 (Ev.bind e3 (Ev.pos rfl (Ev.neg (show ¬ ((G.length : Int) = 0) by omega) ?_))))).ex
  simp only [hwr, hrd]
  refine Ev.pos (by omega) (Ev.pos (by omega) (Ev.pos (by rw [wrap_id (e := (t.length : Int) - g) (by omega) (by omega)]) (Ev.bind e4 (Ev.bind e5 (Ev.pos rfl (Ev.pos rfl (Ev.pos rfl ?_)))))))
  cases t with
  | nil => exact Ev.pos rfl (Ev.pos rfl hR)
  | cons x t =>
    refine Ev.neg (by simp; omega) (Ev.pos (by simp; try omega) (Ev.pos (by simp) (Ev.bind (EqualW_one x w1) (Ev.pos rfl hR))))
end Go.EV.Pure
