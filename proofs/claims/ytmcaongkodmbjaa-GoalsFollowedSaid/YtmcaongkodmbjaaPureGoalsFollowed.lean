/- The plain law: the Lean functions answer true for every list. -/
import Derived.Test.YtmcaongkodmbjaaXGoalsFollowed
import Derived.KernelRfl
set_option linter.unusedVariables false
set_option linter.unusedSimpArgs false
/-! Plain laws that all statements use: numbers that don't wrap, functions with fuel, loops over lists, the stream's draws. -/
namespace Go.EV.Pure
open Go Go.EV Go.RowKit
theorem wrap_id {e : Int} (h1 : -9223372036854775808 ≤ e) (h2 : e ≤ 9223372036854775807) : wrap64 e = e := by
  unfold wrap64
  omega
theorem tdiv_pos {a n : Int} (h : 0 ≤ a) : a.tdiv n = a / n := Int.tdiv_eq_ediv_of_nonneg h
theorem mx_eq (a b : Int) : mx a b = if a < b then b else a := rfl
theorem rd_get (l : List Int) (i : Nat) (h : i < l.length) : rd l (i : Int) = l[i] := by
  simp [rd, List.getD, List.getElem?_eq_getElem h]
theorem rdE_get {α : Type} (E : Enc α) (l : List α) (i : Nat) (h : i < l.length) : rdE E l (i : Int) = l[i] := by
  simp [rdE, List.getD, List.getElem?_eq_getElem h]
theorem rd_mem (l : List Int) (i : Int) (h0 : 0 ≤ i) (h1 : i < l.length) : rd l i ∈ l := by
  have h : i.toNat < l.length := by omega
  have : rd l i = l[i.toNat] := by simp [rd, List.getD, List.getElem?_eq_getElem h]
  rw [this]
  exact List.getElem_mem h
theorem wrap_succ {i : Nat} (h : i ≤ 1000000000000000) : wrap64 ((i : Int) + 1) = ((i + 1 : Nat) : Int) := by rw [wrap_id (by omega) (by omega)]; omega

/-- From some fuel on the function answers v. -/
def Ev {α : Type} (f : Nat → Option α) (v : α) : Prop := ∃ K, ∀ k, K ≤ k → f k = some v
section
variable {α β : Type}
theorem Ev.now (v : α) : Ev (fun _ => some v) v := ⟨0, fun _ _ => rfl⟩
theorem Ev.of {f : Nat → Option α} {v : α} (h : ∀ k, f k = some v) : Ev f v := ⟨0, fun k _ => h k⟩
theorem Ev.from {f : Nat → Option α} {v : α} (n : Nat) (h : ∀ k, f (k + n) = some v) : Ev f v := ⟨n, fun k hk => by
  obtain ⟨m, rfl⟩ : ∃ m, k = m + n := ⟨k - n, by omega⟩
  exact h m⟩
theorem Ev.bind {f : Nat → Option α} {a : α} {g : Nat → α → Option β} {v : β} (h : Ev f a) (h2 : Ev (fun k => g k a) v) : Ev (fun k => (f k).bind (g k)) v := by
  obtain ⟨K, h⟩ := h
  obtain ⟨K2, h2⟩ := h2
  exact ⟨max K K2, fun k hk => by show (f k).bind (g k) = some v; rw [h k (by omega)]; exact h2 k (by omega)⟩
theorem Ev.step {g f : Nat → Option α} {v : α} (h : ∀ k, g (k + 1) = f k) (h2 : Ev f v) : Ev g v := by
  obtain ⟨K, h2⟩ := h2
  exact ⟨K + 1, fun k hk => by
    obtain ⟨m, rfl⟩ : ∃ m, k = m + 1 := ⟨k - 1, by omega⟩
    rw [h m]; exact h2 m (by omega)⟩
theorem Ev.succ {g : Nat → Option α} {v : α} (h : Ev (fun k => g (k + 1)) v) : Ev g v := Ev.step (fun _ => rfl) h
theorem Ev.congr {f g : Nat → Option α} {v : α} (h : ∀ k, f k = g k) (h2 : Ev g v) : Ev f v := by
  obtain ⟨K, h2⟩ := h2
  exact ⟨K, fun k hk => (h k).trans (h2 k hk)⟩
theorem Ev.ex {f : Nat → Option α} {v : α} (h : Ev f v) : ∃ k, f k = some v := let ⟨K, h⟩ := h; ⟨K, h K (Nat.le_refl _)⟩
theorem Ev.pos {p : Prop} [Decidable p] {f g : Nat → Option α} {v : α} (c : p) (h1 : Ev f v) : Ev (fun k => if p then f k else g k) v := by simp only [if_pos c]; exact h1
theorem Ev.neg {p : Prop} [Decidable p] {f g : Nat → Option α} {v : α} (c : ¬ p) (h1 : Ev g v) : Ev (fun k => if p then f k else g k) v := by simp only [if_neg c]; exact h1

/-- A loop over a list by its index: what holds of its state carries over each round, or the round is the last one. -/
theorem loop {σ ρ : Type} (l : List α) (F : Nat → Int → σ → Option ρ) (I : Nat → σ → Prop) (post : ρ → Prop)
    (hstep : ∀ (i : Nat) (s : σ), i < l.length → I i s → (∃ s', I (i + 1) s' ∧ ∀ v, Ev (fun k => F k ((i + 1 : Nat) : Int) s') v → Ev (fun k => F k (i : Int) s) v) ∨ ∃ v, post v ∧ Ev (fun k => F k (i : Int) s) v)
    (hend : ∀ s, I l.length s → ∃ v, post v ∧ Ev (fun k => F k (l.length : Int) s) v) :
    ∀ (i : Nat) (s : σ), i ≤ l.length → I i s → ∃ v, post v ∧ Ev (fun k => F k (i : Int) s) v := by
  intro i
  generalize hd : l.length - i = d
  induction d generalizing i with
  | zero =>
    intro s hi hI
    obtain rfl : i = l.length := by omega
    exact hend s hI
  | succ d ih =>
    intro s hi hI
    rcases hstep i s (by omega) hI with ⟨s', h1, h2⟩ | h
    · obtain ⟨v, h3, h4⟩ := ih (i + 1) (by omega) s' (by omega) h1
      exact ⟨v, h3, h2 v h4⟩
    · exact h
end
end Go.EV.Pure
namespace Go.EV.Pure
open Go Go.EV Go.RowKit
theorem Below_j (x : Int) : Ev (fun k => pilemake_Below.j6 k x) x := Ev.from 1 fun k => rfl
theorem Below_spec (x n : Int) (hn : n ≤ 9223372036854775807) : ∃ r, Ev (fun k => pilemake_Below.f k x n) r ∧ 0 ≤ r ∧ (1 ≤ n → r < n) ∧ (n < 1 → r = 0) := by
  unfold pilemake_Below.f
  by_cases h : n < 1
  · simp only [if_pos h]
    exact ⟨0, Ev.now _, by omega, by omega, fun _ => rfl⟩
  · simp only [if_neg h, if_neg (show ¬ n = 0 by omega)]
    have hm := Int.natAbs_tmod x n
    have hm2 := Nat.mod_lt x.natAbs (show n.natAbs > 0 by omega)
    have h1 : x.tmod n < n := by omega
    have h2 : -n < x.tmod n := by omega
    by_cases h3 : x.tmod n < 0
    · simp only [if_pos h3]
      refine ⟨_, Below_j _, ?_, ?_, ?_⟩ <;> rw [wrap_id (by omega) (by omega)] <;> omega
    · simp only [if_neg h3]
      exact ⟨_, Below_j _, by omega, by omega, by omega⟩
theorem Next_spec (l : List Int) (s n : Int) (h0 : 0 ≤ s) (h1 : s ≤ 4611686018427387904) (hn : n ≤ 9223372036854775807) (hl : l.length ≤ 140737488351232) :
    ∃ r, Ev (fun k => pilemake_Stream_Next.f k l s n) (r, l, s + 1) ∧ 0 ≤ r ∧ (1 ≤ n → r < n) := by
  unfold pilemake_Stream_Next.f
  have hs : wrap64 (s + 1) = s + 1 := wrap_id (by omega) (by omega)
  have hs2 : wrap64 (s + 1 - 1) = s := by rw [wrap_id (by omega) (by omega)]; omega
  simp only [hs, hs2]
  by_cases h : (l.length : Int) = 0
  · simp only [if_pos h]
    obtain ⟨r, hr, r0, r1, _⟩ := Below_spec (wrap64 ((s + 1) * 7919)) n hn
    exact ⟨r, Ev.bind hr (Ev.now _), r0, r1⟩
  · have e : Int.tmod s (l.length : Int) = s % (l.length : Int) := Int.tmod_eq_emod_of_nonneg h0
    have m0 : 0 ≤ s % (l.length : Int) := Int.emod_nonneg _ h
    have m1 : s % (l.length : Int) < (l.length : Int) := Int.emod_lt_of_pos _ (by omega)
    simp only [if_neg h, e, if_pos m0, if_pos m1]
    obtain ⟨a, ha, _⟩ := Below_spec (rd l (s % (l.length : Int))) 1073741824 (by omega)
    obtain ⟨r, hr, r0, r1, _⟩ := Below_spec (wrap64 (a + wrap64 (wrap64 (Int.tdiv s (l.length : Int)) * wrap64 (7919 + s % (l.length : Int))))) n hn
    exact ⟨r, Ev.bind ha (Ev.bind hr (Ev.now _)), r0, r1⟩
theorem Pick_spec (l : List Int) (s : Int) (m : List Int) (h0 : 0 ≤ s) (h1 : s ≤ 4611686018427387904) (hl : l.length ≤ 140737488351232) (hm : 1 ≤ m.length) (hm2 : m.length ≤ 1000) :
    ∃ r, Ev (fun k => pilemake_Stream_Pick.f k l s m) (r, l, s + 1) ∧ r ∈ m := by
  obtain ⟨r, hr, r0, r1⟩ := Next_spec l s (m.length : Int) h0 h1 (by omega) hl
  have r2 := r1 (by omega)
  exact ⟨rd m r, Ev.bind hr (Ev.pos r0 (Ev.pos r2 (Ev.now _))), rd_mem m r r0 r2⟩
theorem Range_spec (l : List Int) (s a b : Int) (h0 : 0 ≤ s) (h1 : s ≤ 4611686018427387904) (ha : -1099511627776 ≤ a) (hb : b ≤ 1099511627776) (hab : a ≤ b) (hl : l.length ≤ 140737488351232) :
    ∃ r, Ev (fun k => pilemake_Stream_Range.f k l s a b) (r, l, s + 1) ∧ a ≤ r ∧ r ≤ b := by
  obtain ⟨r, hr, r0, r1⟩ := Next_spec l s (b - a + 1) h0 h1 (by omega) hl
  have r2 := r1 (by omega)
  refine ⟨a + r, ?_, by omega, by omega⟩
  unfold pilemake_Stream_Range.f
  rw [wrap_id (e := b - a) (by omega) (by omega), wrap_id (e := b - a + 1) (by omega) (by omega)]
  refine Ev.neg (by omega) (Ev.bind hr ?_)
  simp only [wrap_id (e := a + r) (by omega) (by omega)]
  exact Ev.now _
theorem Flip_spec (l : List Int) (s n : Int) (h0 : 0 ≤ s) (h1 : s ≤ 4611686018427387904) (hn : n ≤ 9223372036854775807) (hl : l.length ≤ 140737488351232) :
    ∃ b, Ev (fun k => pilemake_Stream_Flip.f k l s n) (b, l, s + 1) := by
  obtain ⟨r, hr, _⟩ := Next_spec l s n h0 h1 hn hl
  exact ⟨decide (r = 0), Ev.bind hr (Ev.now _)⟩
end Go.EV.Pure
namespace Go.EV.Pure
open Go Go.EV Go.RowKit
/-- How many of some numbers are from a on, before b. -/
def cntIn (l : List Int) (a b : Int) : Nat := l.countP fun x => decide (a ≤ x ∧ x < b)
/-- How many are before a. -/
def cntLt (l : List Int) (a : Int) : Nat := l.countP fun x => decide (x < a)
theorem cntLt_le (l : List Int) (a : Int) : cntLt l a ≤ l.length := List.countP_le_length
theorem cnt_split (l : List Int) (a b : Int) : (a ≤ b → cntLt l b = cntLt l a + cntIn l a b) ∧ (b ≤ a → cntIn l a b = 0 ∧ cntLt l b ≤ cntLt l a) := by
  induction l with
  | nil => simp [cntLt, cntIn]
  | cons x l ih =>
    simp only [cntLt, cntIn, List.countP_cons, decide_eq_true_eq] at ih ⊢
    constructor
    · intro h
      have := ih.1 h
      repeat' split
      all_goals omega
    · intro h
      have := ih.2 h
      repeat' split
      all_goals omega
/-- What is wrong with times in a window: from a time on, behind one. -/
def scanV (w0 w1 : Int) : Option Int → List Int → Int
  | _, [] => 0
  | p, x :: l => if w0 ≤ x ∧ x < w1 then (if (∃ y, p = some y ∧ x < y) then 7 else scanV w0 w1 (some x) l) else 1
def prevV (l : List Int) (i : Nat) : Option Int := if i = 0 then none else l[i - 1]?
/-- What is wrong with times in a window. -/
def timesV (l : List Int) (w0 w1 : Int) : Int :=
  if 0 ≤ w0 ∧ w0 < w1 ∧ w1 ≤ 345686400000 then (if l.length > 2000 then 2 else scanV w0 w1 none l) else 1
theorem scan_ok (w0 w1 : Int) (l : List Int) : ∀ p, scanV w0 w1 p l = 0 → (∀ x ∈ l, w0 ≤ x ∧ x < w1) ∧ l.Pairwise (· ≤ ·) ∧ ∀ y, p = some y → ∀ x ∈ l, y ≤ x := by
  induction l with
  | nil => intro p _; simp
  | cons x l ih =>
    intro p h
    simp only [scanV] at h
    by_cases c : w0 ≤ x ∧ x < w1
    · rw [if_pos c] at h
      by_cases d : ∃ y, p = some y ∧ x < y
      · rw [if_pos d] at h; omega
      · rw [if_neg d] at h
        obtain ⟨h1, h2, h3⟩ := ih _ h
        refine ⟨?_, ?_, ?_⟩
        · intro z hz
          rcases List.mem_cons.1 hz with rfl | hz
          · exact c
          · exact h1 z hz
        · exact List.pairwise_cons.2 ⟨fun z hz => h3 x rfl z hz, h2⟩
        · intro y hy z hz
          have hyx : y ≤ x := by
            by_cases e : x < y
            · exact absurd ⟨y, hy, e⟩ d
            · omega
          rcases List.mem_cons.1 hz with rfl | hz
          · exact hyx
          · have := h3 x rfl z hz; omega
    · rw [if_neg c] at h; omega
theorem times_ok {l : List Int} {w0 w1 : Int} (h : timesV l w0 w1 = 0) : (0 ≤ w0 ∧ w0 < w1 ∧ w1 ≤ 345686400000) ∧ l.length ≤ 2000 ∧ (∀ x ∈ l, w0 ≤ x ∧ x < w1) ∧ l.Pairwise (· ≤ ·) := by
  unfold timesV at h
  by_cases c : 0 ≤ w0 ∧ w0 < w1 ∧ w1 ≤ 345686400000
  · rw [if_pos c] at h
    by_cases d : l.length > 2000
    · rw [if_pos d] at h; omega
    · rw [if_neg d] at h
      obtain ⟨h1, h2, _⟩ := scan_ok _ _ _ _ h
      exact ⟨c, by omega, h1, h2⟩
  · rw [if_neg c] at h; omega
theorem Has_eq (a b x : Int) : kit_Has.f a b x = some (decide (a ≤ x ∧ x < b)) := by
  unfold kit_Has.f
  split <;> simp [*]
theorem inside_eq (a b x : Int) : pileref1_inside.f a b x = some (decide (a ≤ x ∧ x < b)) := by
  unfold pileref1_inside.f
  split <;> simp [*]
theorem IsTime_eq (a b : Int) : kit_IsTime.f a b = some (decide (0 ≤ a ∧ a < b ∧ b ≤ 345686400000)) := by
  unfold kit_IsTime.f
  split
  · split <;> simp [*] <;> omega
  · simp; omega
theorem timeFault_eq (a b : Int) : pileref1_timeFault.f a b = some (if 0 ≤ a ∧ a < b ∧ b ≤ 345686400000 then 0 else 1) := by
  unfold pileref1_timeFault.f
  repeat' split
  all_goals first | rfl | omega
theorem CheckTimes_loop (l : List Int) (hl : l.length ≤ 140737488351232) (w0 w1 : Int) (d : Nat) : ∀ i : Nat, i + d = l.length →
    Ev (fun k => rate_CheckTimes.l0 k l w0 w1 (i : Int)) (scanV w0 w1 (prevV l i) (l.drop i)) := by
  induction d with
  | zero =>
    intro i hi
    refine Ev.step (f := fun _ => some _) (fun k => ?_) (Ev.now _)
    simp only [rate_CheckTimes.l0]
    rw [if_neg (by omega), List.drop_of_length_le (by omega)]
    rfl
  | succ d ih =>
    intro i hi
    have hlt : i < l.length := by omega
    have hd : l.drop i = l[i] :: l.drop (i + 1) := List.drop_eq_getElem_cons hlt
    have hr := rd_get l i hlt
    have hw : wrap64 ((i : Int) + 1) = ((i + 1 : Nat) : Int) := by rw [wrap_id (by omega) (by omega)]; omega
    have hp : prevV l (i + 1) = some l[i] := by simp [prevV, List.getElem?_eq_getElem hlt]
    have ih' := ih (i + 1) (by omega)
    rw [hp] at ih'
    rw [hd]
    simp only [scanV]
    by_cases c : w0 ≤ l[i] ∧ l[i] < w1
    · by_cases z : i = 0
      · subst z
        rw [if_pos c, if_neg (by rintro ⟨y, hy, _⟩; simp [prevV] at hy)]
        refine Ev.step (fun k => ?_) ih'
        simp only [rate_CheckTimes.l0]
        rw [if_pos (by omega), if_pos (by omega), if_pos (by omega), hr, Has_eq]
        simp only [Option.bind_some, decide_eq_true_eq]
        rw [if_pos c, if_neg (by omega), hw]
      · have hlt2 : i - 1 < l.length := by omega
        have hr2 := rd_get l (i - 1) hlt2
        have hw2 : wrap64 ((i : Int) - 1) = ((i - 1 : Nat) : Int) := by rw [wrap_id (by omega) (by omega)]; omega
        have hp2 : prevV l i = some l[i - 1] := by simp [prevV, z, List.getElem?_eq_getElem hlt2]
        rw [if_pos c, hp2]
        by_cases o : l[i] < l[i - 1]
        · rw [if_pos ⟨_, rfl, o⟩]
          refine Ev.step (f := fun _ => some 7) (fun k => ?_) (Ev.now _)
          simp only [rate_CheckTimes.l0]
          rw [if_pos (by omega), if_pos (by omega), if_pos (by omega), hr, Has_eq]
          simp only [Option.bind_some, decide_eq_true_eq]
          rw [if_pos c, if_pos (by omega), hw2, if_pos (by omega), if_pos (by omega), hr2, if_pos o]
        · rw [if_neg (by rintro ⟨y, hy, h⟩; cases hy; exact o h)]
          refine Ev.step (fun k => ?_) ih'
          simp only [rate_CheckTimes.l0]
          rw [if_pos (by omega), if_pos (by omega), if_pos (by omega), hr, Has_eq]
          simp only [Option.bind_some, decide_eq_true_eq]
          rw [if_pos c, if_pos (by omega), hw2, if_pos (by omega), if_pos (by omega), hr2, if_neg o, hw]
    · rw [if_neg c]
      refine Ev.step (f := fun _ => some 1) (fun k => ?_) (Ev.now _)
      simp only [rate_CheckTimes.l0]
      rw [if_pos (by omega), if_pos (by omega), if_pos (by omega), hr, Has_eq]
      simp only [Option.bind_some, decide_eq_true_eq]
      rw [if_neg c]
theorem CheckTimes_ev (l : List Int) (hl : l.length ≤ 140737488351232) (w0 w1 : Int) : Ev (fun k => rate_CheckTimes.f k l w0 w1) (timesV l w0 w1) := by
  have h := CheckTimes_loop l hl w0 w1 l.length 0 (by omega)
  simp only [rate_CheckTimes.f, IsTime_eq, Option.bind_some, decide_eq_true_eq]
  unfold timesV
  by_cases c : 0 ≤ w0 ∧ w0 < w1 ∧ w1 ≤ 345686400000
  · simp only [if_pos c]
    by_cases d : l.length > 2000
    · have d' : (l.length : Int) > 2000 := by omega
      simp only [if_pos d, if_pos d']
      exact Ev.now _
    · have d' : ¬ (l.length : Int) > 2000 := by omega
      simp only [if_neg d, if_neg d']
      simpa [prevV] using h
  · simp only [if_neg c]
    exact Ev.now _
theorem TimesFault_loop (l : List Int) (hl : l.length ≤ 140737488351232) (w0 w1 : Int) (d : Nat) : ∀ i : Nat, i + d = l.length →
    Ev (fun k => pileref1_TimesFault.l0 k l w0 w1 (i : Int)) (scanV w0 w1 (prevV l i) (l.drop i)) := by
  induction d with
  | zero =>
    intro i hi
    refine Ev.step (f := fun _ => some _) (fun k => ?_) (Ev.now _)
    simp only [pileref1_TimesFault.l0]
    rw [if_neg (by omega), List.drop_of_length_le (by omega)]
    rfl
  | succ d ih =>
    intro i hi
    have hlt : i < l.length := by omega
    have hd : l.drop i = l[i] :: l.drop (i + 1) := List.drop_eq_getElem_cons hlt
    have hr := rd_get l i hlt
    have hw : wrap64 ((i : Int) + 1) = ((i + 1 : Nat) : Int) := by rw [wrap_id (by omega) (by omega)]; omega
    have hp : prevV l (i + 1) = some l[i] := by simp [prevV, List.getElem?_eq_getElem hlt]
    have ih' := ih (i + 1) (by omega)
    rw [hp] at ih'
    rw [hd]
    simp only [scanV]
    by_cases c : w0 ≤ l[i] ∧ l[i] < w1
    · by_cases z : i = 0
      · subst z
        rw [if_pos c, if_neg (by rintro ⟨y, hy, _⟩; simp [prevV] at hy)]
        refine Ev.step (fun k => ?_) ih'
        simp only [pileref1_TimesFault.l0]
        rw [if_pos (by omega), if_pos (by omega), if_pos (by omega), hr, inside_eq]
        simp only [Option.bind_some, decide_eq_true_eq]
        rw [if_pos c, if_neg (by omega), hw]
      · have hlt2 : i - 1 < l.length := by omega
        have hr2 := rd_get l (i - 1) hlt2
        have hw2 : wrap64 ((i : Int) - 1) = ((i - 1 : Nat) : Int) := by rw [wrap_id (by omega) (by omega)]; omega
        have hp2 : prevV l i = some l[i - 1] := by simp [prevV, z, List.getElem?_eq_getElem hlt2]
        rw [if_pos c, hp2]
        by_cases o : l[i] < l[i - 1]
        · rw [if_pos ⟨_, rfl, o⟩]
          refine Ev.step (f := fun _ => some 7) (fun k => ?_) (Ev.now _)
          simp only [pileref1_TimesFault.l0]
          rw [if_pos (by omega), if_pos (by omega), if_pos (by omega), hr, inside_eq]
          simp only [Option.bind_some, decide_eq_true_eq]
          rw [if_pos c, if_pos (by omega), hw2, if_pos (by omega), if_pos (by omega), hr2, if_pos o]
        · rw [if_neg (by rintro ⟨y, hy, h⟩; cases hy; exact o h)]
          refine Ev.step (fun k => ?_) ih'
          simp only [pileref1_TimesFault.l0]
          rw [if_pos (by omega), if_pos (by omega), if_pos (by omega), hr, inside_eq]
          simp only [Option.bind_some, decide_eq_true_eq]
          rw [if_pos c, if_pos (by omega), hw2, if_pos (by omega), if_pos (by omega), hr2, if_neg o, hw]
    · rw [if_neg c]
      refine Ev.step (f := fun _ => some 1) (fun k => ?_) (Ev.now _)
      simp only [pileref1_TimesFault.l0]
      rw [if_pos (by omega), if_pos (by omega), if_pos (by omega), hr, inside_eq]
      simp only [Option.bind_some, decide_eq_true_eq]
      rw [if_neg c]
theorem TimesFault_ev (l : List Int) (hl : l.length ≤ 140737488351232) (w0 w1 : Int) : Ev (fun k => pileref1_TimesFault.f k l w0 w1) (timesV l w0 w1) := by
  have h := TimesFault_loop l hl w0 w1 l.length 0 (by omega)
  simp only [pileref1_TimesFault.f, timeFault_eq, Option.bind_some]
  unfold timesV
  by_cases c : 0 ≤ w0 ∧ w0 < w1 ∧ w1 ≤ 345686400000
  · simp only [if_pos c, if_true]
    by_cases d : l.length > 2000
    · have d' : (l.length : Int) > 2000 := by omega
      simp only [if_pos d, if_pos d']
      exact Ev.now _
    · have d' : ¬ (l.length : Int) > 2000 := by omega
      simp only [if_neg d, if_neg d']
      simpa [prevV] using h
  · simp only [if_neg c, show ¬ ((1 : Int) = 0) by omega, if_false]
    exact Ev.now _
theorem countP_parts (l : List Int) (a : Int) (i : Nat) (hi : i ≤ l.length) (h1 : ∀ t (h : t < l.length), t < i → l[t] < a) (h2 : ∀ t (h : t < l.length), i ≤ t → a ≤ l[t]) : cntLt l a = i := by
  have e : l = l.take i ++ l.drop i := (List.take_append_drop i l).symm
  unfold cntLt
  rw [e, List.countP_append]
  have e1 : List.countP (fun x => decide (x < a)) (l.take i) = (l.take i).length := by
    rw [List.countP_eq_length]
    intro x hx
    obtain ⟨t, ht, rfl⟩ := List.getElem_of_mem hx
    rw [List.length_take] at ht
    simp only [List.getElem_take, decide_eq_true_eq]
    exact h1 t (by omega) (by omega)
  have e2 : List.countP (fun x => decide (x < a)) (l.drop i) = 0 := by
    rw [List.countP_eq_zero]
    intro x hx
    obtain ⟨t, ht, rfl⟩ := List.getElem_of_mem hx
    rw [List.length_drop] at ht
    simp only [List.getElem_drop, decide_eq_true_eq]
    have := h2 (i + t) (by omega) (by omega)
    omega
  rw [e1, e2, List.length_take]
  omega
theorem sorted_le {l : List Int} (hs : l.Pairwise (· ≤ ·)) (t m : Nat) (ht : t < l.length) (hm : m < l.length) (h : t ≤ m) : l[t] ≤ l[m] := by
  rcases Nat.lt_or_ge t m with h1 | h1
  · exact List.pairwise_iff_getElem.1 hs t m ht hm h1
  · have e : t = m := Nat.le_antisymm h h1
    subst e
    exact Int.le_refl _
theorem Less_eq (a b : Int) : cmp_Less_int.f a b = some (decide (a < b)) := by
  simp [cmp_Less_int.f, cmp_isNaN_int.f]
theorem u64_id (e : Int) (h0 : 0 ≤ e) (h1 : e < 18446744073709551616) : IntKind.u64.wrap e = e := by
  show e % 18446744073709551616 = e
  omega
theorem mid_eq (i j : Nat) (h : i + j ≤ 281474976710656) : wrap64 (Int.fdiv (IntKind.u64.wrap (wrap64 ((i : Int) + (j : Int)))) (2 ^ (min (Int.toNat 1) 64))) = (((i + j) / 2 : Nat) : Int) := by
  rw [wrap_id (e := (i : Int) + (j : Int)) (by omega) (by omega), u64_id _ (by omega) (by omega), show ((2 : Int) ^ (min (Int.toNat 1) 64)) = 2 from rfl, Int.fdiv_eq_ediv_of_nonneg _ (by omega), wrap_id (by omega) (by omega)]
  omega
theorem BinarySearch_loop (l : List Int) (hl : l.length ≤ 140737488351232) (a : Int) (hs : l.Pairwise (· ≤ ·)) (d : Nat) : ∀ i j : Nat, i ≤ j → j ≤ l.length → j - i ≤ d →
    (∀ t (h : t < l.length), t < i → l[t] < a) → (∀ t (h : t < l.length), j ≤ t → a ≤ l[t]) →
    ∃ b, Ev (fun k => slices_BinarySearch_int_int.l0 k l a (i : Int) (j : Int)) ((cntLt l a : Int), b) := by
  induction d with
  | zero =>
    intro i j h1 h2 h3 h4 h5
    have hij : i = j := by omega
    subst hij
    have hc := countP_parts l a i h2 h4 h5
    by_cases c : i < l.length
    · have hr := rd_get l i c
      by_cases e : l[i] = a
      · refine ⟨true, Ev.step (f := fun _ => some _) (fun k => ?_) (Ev.now _)⟩
        simp only [slices_BinarySearch_int_int.l0]
        rw [if_neg (by omega), if_pos (by omega), if_pos (by omega), if_pos (by omega), hr, if_pos e, hc]
      · refine ⟨false, Ev.step (f := fun _ => some _) (fun k => ?_) (Ev.now _)⟩
        simp only [slices_BinarySearch_int_int.l0, slices_isNaN_int.f]
        rw [if_neg (by omega), if_pos (by omega), if_pos (by omega), if_pos (by omega), hr, if_neg e, hc]
        simp
        omega
    · refine ⟨false, Ev.step (f := fun _ => some _) (fun k => ?_) (Ev.now _)⟩
      simp only [slices_BinarySearch_int_int.l0]
      rw [if_neg (by omega), if_neg (by omega), hc]
  | succ d ih =>
    intro i j h1 h2 h3 h4 h5
    by_cases hij : i = j
    · subst hij
      exact ih i i (by omega) h2 (by omega) h4 h5
    · obtain ⟨m, hmm⟩ : ∃ m, (i + j) / 2 = m := ⟨_, rfl⟩
      have hml : m < l.length := by omega
      have him : i ≤ m := by omega
      have hmj : m < j := by omega
      have hmid : wrap64 (Int.fdiv (IntKind.u64.wrap (wrap64 ((i : Int) + (j : Int)))) (2 ^ (min (Int.toNat 1) 64))) = (m : Int) := by
        rw [mid_eq i j (by omega), hmm]
      by_cases c : l[m] < a
      · obtain ⟨b, hb⟩ := ih (m + 1) j (by omega) h2 (by omega) (fun t ht h => Int.lt_of_le_of_lt (sorted_le hs t m ht hml (by omega)) c) h5
        refine ⟨b, Ev.step (fun k => ?_) hb⟩
        simp only [slices_BinarySearch_int_int.l0]
        rw [if_pos (by omega), hmid, if_pos (by omega), if_pos (by omega), rd_get l m hml, Less_eq]
        simp only [Option.bind_some, decide_eq_true_eq]
        rw [if_pos c, wrap_id (by omega) (by omega), show ((m : Int) + 1) = ((m + 1 : Nat) : Int) by omega]
      · obtain ⟨b, hb⟩ := ih i m him (by omega) (by omega) h4 (fun t ht h => Int.le_trans (Int.not_lt.1 c) (sorted_le hs m t hml ht h))
        refine ⟨b, Ev.step (fun k => ?_) hb⟩
        simp only [slices_BinarySearch_int_int.l0]
        rw [if_pos (by omega), hmid, if_pos (by omega), if_pos (by omega), rd_get l m hml, Less_eq]
        simp only [Option.bind_some, decide_eq_true_eq]
        rw [if_neg c]
theorem before_ev (l : List Int) (hl : l.length ≤ 140737488351232) (hs : l.Pairwise (· ≤ ·)) (a : Int) : Ev (fun k => rate_before.f k l a) (cntLt l a : Int) := by
  obtain ⟨b, hb⟩ := BinarySearch_loop l hl a hs l.length 0 l.length (by omega) (by omega) (by omega) (fun t _ h => by omega) (fun t h h' => by omega)
  exact Ev.bind hb (Ev.now _)
theorem in_ev (l : List Int) (hl : l.length ≤ 140737488351232) (hs : l.Pairwise (· ≤ ·)) (a b : Int) : Ev (fun k => rate_in.f k l a b) (cntIn l a b : Int) := by
  refine Ev.bind (before_ev l hl hs b) (Ev.bind (before_ev l hl hs a) ?_)
  have h := cnt_split l a b
  have h1 := cntLt_le l a
  have h2 := cntLt_le l b
  have e : mx 0 (wrap64 ((cntLt l b : Int) - (cntLt l a : Int))) = (cntIn l a b : Int) := by
    rw [wrap_id (by omega) (by omega), mx_eq]
    by_cases c : a ≤ b
    · have := h.1 c; split <;> omega
    · have := h.2 (by omega); split <;> omega
  rw [e]
  exact Ev.now _
end Go.EV.Pure
namespace Go.EV.Pure
open Go Go.EV Go.RowKit
set_option linter.unusedSimpArgs false
/-! The lists of times that the stream makes, told with their room to spare. -/
def endsT (w0 b : Int) : Prop := b = 3600000 ∨ b = 5000000 ∨ b = 9000000 ∨ b = 30000000 ∨ b = w0 ∨ b = 345686400001
theorem TimesOfT_j (w0 b : Int) (t L l : List Int) (s : Int) : Ev (fun k => pilemake_Stream_TimesOf.j14 k w0 b t L l s) (L, t, w0, b, l, s) := Ev.from 1 fun k => rfl
theorem TimesOfT_end (l : List Int) (hl : l.length ≤ 140737488351232) (x w0 b : Int) (hb : endsT w0 b) (L : List Int) (hL : L.length ≤ 12) (t : List Int) (s : Int) (h0 : 0 ≤ s) (h1 : s ≤ 4611686018427380000) :
    ∃ (L' t' : List Int) (b' s' : Int), (∀ f : Nat → Option _, (∀ k, f (k + 1) = ((pilemake_Stream_Flip.f k l s 15).bind fun r10 => (if r10.1 = true then ((pilemake_Stream_Pick.f k r10.2.1 r10.2.2 [b, w0, 345686400001]).bind fun r11 => ((pilemake_Stream_Pick.f k r11.2.1 r11.2.2 [0, r11.1, x]).bind fun r12 => (if L.length + [r12.1].length ≤ 549755813888 then pilemake_Stream_TimesOf.j14 k w0 r11.1 (t.drop [r12.1].length) (L ++ [r12.1]) r12.2.1 r12.2.2 else Option.none))) else pilemake_Stream_TimesOf.j14 k w0 b t L r10.2.1 r10.2.2))) → Ev f (L', t', w0, b', l, s')) ∧
      L'.length ≤ 13 ∧ endsT w0 b' ∧ s ≤ s' ∧ s' ≤ s + 3 := by
  obtain ⟨f, e1⟩ := Flip_spec l s 15 (by omega) (by omega) (by omega) hl
  cases f with
  | true =>
    obtain ⟨r2, e2, m2⟩ := Pick_spec l (s + 1) [b, w0, 345686400001] (by omega) (by omega) hl (by simp) (by simp)
    obtain ⟨r3, e3, _⟩ := Pick_spec l (s + 1 + 1) [0, r2, x] (by omega) (by omega) hl (by simp) (by simp)
    refine ⟨L ++ [r3], t.drop [r3].length, r2, s + 1 + 1 + 1, fun f hf => Ev.step hf (Ev.bind e1 (Ev.pos rfl (Ev.bind e2 (Ev.bind e3 (Ev.pos (by simp; omega) (TimesOfT_j _ _ _ _ _ _)))))), by simp; omega, ?_, by omega, by omega⟩
    simp only [List.mem_cons, List.not_mem_nil, or_false] at m2
    unfold endsT at hb ⊢
    omega
  | false =>
    exact ⟨L, t, b, s + 1, fun f hf => Ev.step hf (Ev.bind e1 (Ev.neg Bool.false_ne_true (TimesOfT_j _ _ _ _ _ _))), by omega, hb, by omega, by omega⟩
theorem TimesOfT_l1 (l : List Int) (hl : l.length ≤ 140737488351232) (x w0 b : Int) (hb : endsT w0 b) (s : Int) (h0 : 0 ≤ s) (h1 : s ≤ 4611686018427380000) (n : Nat) : ∀ L t : List Int, L.length = n → n ≤ 12 →
    ∃ (L' t' : List Int) (b' s' : Int), Ev (fun k => pilemake_Stream_TimesOf.l1 k x w0 b l s t L) (L', t', w0, b', l, s') ∧ L'.length ≤ 13 ∧ endsT w0 b' ∧ s ≤ s' ∧ s' ≤ s + 3 := by
  induction n with
  | zero =>
    intro L t hL _
    obtain ⟨L', t', b', s', h, q⟩ := TimesOfT_end l hl x w0 b hb L (by omega) t s h0 h1
    refine ⟨L', t', b', s', h _ (fun k => ?_), q⟩
    simp only [pilemake_Stream_TimesOf.l1]
    rw [if_neg (by omega)]
  | succ n ih =>
    intro L t hL hn
    have hw : wrap64 ((L.length : Int) - 1) = (n : Int) := by rw [wrap_id (by omega) (by omega)]; omega
    by_cases c : rd L (n : Int) ≥ b
    · obtain ⟨L', t', b', s', h, q⟩ := ih (L.take n) (L.drop n ++ t) (by simp; omega) (by omega)
      refine ⟨L', t', b', s', Ev.step (fun k => ?_) h, q⟩
      simp only [pilemake_Stream_TimesOf.l1, hw]
      rw [if_pos (by omega), if_pos (by omega), if_pos (by omega), if_pos c, if_pos (by omega), if_pos (by omega), Int.toNat_natCast]
    · obtain ⟨L', t', b', s', h, q⟩ := TimesOfT_end l hl x w0 b hb L (by omega) t s h0 h1
      refine ⟨L', t', b', s', h _ (fun k => ?_), q⟩
      simp only [pilemake_Stream_TimesOf.l1, hw]
      rw [if_pos (by omega), if_pos (by omega), if_pos (by omega), if_neg c]
theorem TimesOfT_l0 (l : List Int) (hl : l.length ≤ 140737488351232) (m w0 b : Int) (hm : 0 ≤ m ∧ m ≤ 12) (hb : endsT w0 b) (d : Nat) : ∀ (i : Int) (L : List Int) (x s : Int), 0 ≤ i → i + d = m → L.length ≤ i → 0 ≤ s → s + d ≤ 4611686018427380000 →
    ∃ (L' t' : List Int) (b' s' : Int), Ev (fun k => pilemake_Stream_TimesOf.l0 k x m i w0 b L l s) (L', t', w0, b', l, s') ∧ L'.length ≤ 13 ∧ endsT w0 b' ∧ s ≤ s' ∧ s' ≤ s + d + 3 := by
  induction d with
  | zero =>
    intro i L x s hi hd hL h0 h1
    obtain ⟨L', t', b', s', h, q1, q2, q3, q4⟩ := TimesOfT_l1 l hl x w0 b hb s h0 (by omega) L.length L [] rfl (by omega)
    refine ⟨L', t', b', s', Ev.step (fun k => ?_) h, q1, q2, by omega, by omega⟩
    simp only [pilemake_Stream_TimesOf.l0]
    rw [if_neg (by omega)]
  | succ d ih =>
    intro i L x s hi hd hL h0 h1
    obtain ⟨r, e, _⟩ := Pick_spec l s [0, 1, 1000, 60000, 300000, 1800000] (by omega) (by omega) hl (by simp) (by simp)
    obtain ⟨L', t', b', s', h, q1, q2, q3, q4⟩ := ih (i + 1) (L ++ [wrap64 (x + r)]) (wrap64 (x + r)) (s + 1) (by omega) (by omega) (by simp; omega) (by omega) (by omega)
    have hw : wrap64 (i + 1) = i + 1 := wrap_id (by omega) (by omega)
    refine ⟨L', t', b', s', Ev.succ ?_, q1, q2, by omega, by omega⟩
    simp only [pilemake_Stream_TimesOf.l0, hw]
    exact Ev.pos (by omega) (Ev.bind e (Ev.pos (show L.length + 1 ≤ 549755813888 by omega) h))
theorem TimesOfT_spec (l : List Int) (s : Int) (h0 : 0 ≤ s) (h1 : s ≤ 4611686018427370000) (hl : l.length ≤ 140737488351232) :
    ∃ (L t : List Int) (a b s' : Int), Ev (fun k => pilemake_Stream_TimesOf.f k l s) (L, t, a, b, l, s') ∧ L.length ≤ 13 ∧ (a = 0 ∨ a = 1000) ∧ endsT a b ∧ s ≤ s' ∧ s' ≤ s + 20 := by
  obtain ⟨r1, e1, m1⟩ := Pick_spec l s [0, 1000] (by omega) (by omega) hl (by simp) (by simp)
  obtain ⟨r2, e2, m2⟩ := Pick_spec l (s + 1) [3600000, 5000000, 9000000, 30000000] (by omega) (by omega) hl (by simp) (by simp)
  obtain ⟨r3, e3, r3a, r3b⟩ := Range_spec l (s + 1 + 1) 0 12 (by omega) (by omega) (by omega) (by omega) (by omega) hl
  simp only [List.mem_cons, List.not_mem_nil, or_false] at m1 m2
  obtain ⟨L', t', b', s', h, q1, q2, q3, q4⟩ := TimesOfT_l0 l hl r3 r1 r2 ⟨r3a, r3b⟩ (by unfold endsT; omega) r3.toNat 0 [] r1 (s + 1 + 1 + 1) (by omega) (by omega) (by simp) (by omega) (by omega)
  exact ⟨L', t', r1, b', s', Ev.bind e1 (Ev.bind e2 (Ev.bind e3 h)), q1, m1, q2, by omega, by omega⟩
/-! What is outside is taken out. -/
theorem GF1_eq (x a b : Int) : pilelaw1_GoalsFollowed_1.f x a b = some (decide (x ≥ b ∨ x < a)) := by
  unfold pilelaw1_GoalsFollowed_1.f
  split <;> simp [*]
theorem DelG_index (l t : List Int) (hl : l.length ≤ 1000) (a b : Int) : ∃ r : Int, Ev (fun k => slices_IndexFunc_int_int_of_t_pilelaw1_GoalsFollowed_1.f k l t a b) r ∧ (r = -1 ∨ ∃ i : Nat, r = i ∧ i < l.length) := by
  obtain ⟨v, hp, hv⟩ := loop l (fun k i (_ : Unit) => slices_IndexFunc_int_int_of_t_pilelaw1_GoalsFollowed_1.l0 k l t a b i) (fun _ _ => True) (fun v => v = -1 ∨ ∃ i : Nat, v = i ∧ i < l.length)
    (fun i _ hi _ => by
      by_cases c : l[i] ≥ b ∨ l[i] < a
      · refine .inr ⟨(i : Int), .inr ⟨i, rfl, hi⟩, Ev.succ ?_⟩
        simp only [slices_IndexFunc_int_int_of_t_pilelaw1_GoalsFollowed_1.l0, rd_get l i hi, GF1_eq, Option.bind_some]
        exact Ev.pos (by omega) (Ev.pos (by omega) (Ev.pos (by omega) (Ev.pos (by simpa using c) (Ev.now _))))
      · refine .inl ⟨(), trivial, fun v hv => Ev.succ ?_⟩
        simp only [slices_IndexFunc_int_int_of_t_pilelaw1_GoalsFollowed_1.l0, rd_get l i hi, GF1_eq, Option.bind_some, wrap_succ (show i ≤ 1000000000000000 by omega)]
        exact Ev.pos (by omega) (Ev.pos (by omega) (Ev.pos (by omega) (Ev.neg (by simpa using c) hv))))
    (fun _ _ => ⟨-1, .inl rfl, Ev.step (f := fun _ => some _) (fun k => by simp only [slices_IndexFunc_int_int_of_t_pilelaw1_GoalsFollowed_1.l0]; rw [if_neg (by omega)]) (Ev.now _)⟩) 0 () (by omega) trivial
  exact ⟨v, by unfold slices_IndexFunc_int_int_of_t_pilelaw1_GoalsFollowed_1.f; exact hv, hp⟩
theorem DelG_loop (t : List Int) (a b : Int) (n : Nat) (hn : n ≤ 1000) (d : Nat) : ∀ (i j : Nat) (o : List Int), o.length = n → j + d = n → i < j →
    ∃ r : List Int × List Int, Ev (fun k => slices_DeleteFunc_int_int_of_t_pilelaw1_GoalsFollowed_1.l0 k t a b (i : Int) (j : Int) o) r ∧ r.1.length ≤ n := by
  induction d with
  | zero =>
    intro i j o ho hj hi
    refine ⟨((o.take i ++ List.replicate (o.length - i) eI.d).take i, ((o.take i ++ List.replicate (o.length - i) eI.d).drop i) ++ t), Ev.step (f := fun _ => some _) (fun k => ?_) (Ev.now _), by simp; omega⟩
    simp only [slices_DeleteFunc_int_int_of_t_pilelaw1_GoalsFollowed_1.l0, Int.toNat_natCast]
    rw [if_neg (by omega), if_pos (by omega), if_pos (by omega), if_pos (by simp; omega), if_pos (by omega), if_pos (by simp; omega)]
  | succ d ih =>
    intro i j o ho hj hi
    have hw := wrap_succ (show j ≤ 1000000000000000 by omega)
    have hw2 := wrap_succ (show i ≤ 1000000000000000 by omega)
    by_cases c : rd o (j : Int) ≥ b ∨ rd o (j : Int) < a
    · obtain ⟨r, h1, h2⟩ := ih i (j + 1) o ho (by omega) (by omega)
      refine ⟨r, Ev.succ ?_, h2⟩
      simp only [slices_DeleteFunc_int_int_of_t_pilelaw1_GoalsFollowed_1.l0, GF1_eq, Option.bind_some]
      refine Ev.pos (by omega) (Ev.pos (by omega) (Ev.pos (by omega) (Ev.pos (by simpa using c) (Ev.succ ?_))))
      simp only [slices_DeleteFunc_int_int_of_t_pilelaw1_GoalsFollowed_1.j6, hw]
      exact h1
    · obtain ⟨r, h1, h2⟩ := ih (i + 1) (j + 1) (o.set i (rd o (j : Int))) (by simpa using ho) (by omega) (by omega)
      refine ⟨r, Ev.succ ?_, h2⟩
      simp only [slices_DeleteFunc_int_int_of_t_pilelaw1_GoalsFollowed_1.l0, GF1_eq, Option.bind_some, Int.toNat_natCast]
      refine Ev.pos (by omega) (Ev.pos (by omega) (Ev.pos (by omega) (Ev.neg (by simpa using c) (Ev.pos (by omega) (Ev.pos (by omega) (Ev.succ ?_))))))
      simp only [slices_DeleteFunc_int_int_of_t_pilelaw1_GoalsFollowed_1.j6, hw, hw2]
      exact h1
theorem DelG_spec (l t : List Int) (hl : l.length ≤ 1000) (a b : Int) : ∃ r : List Int × List Int, Ev (fun k => slices_DeleteFunc_int_int_of_t_pilelaw1_GoalsFollowed_1.f k l t a b) r ∧ r.1.length ≤ l.length := by
  obtain ⟨r1, e1, h1⟩ := DelG_index l t hl a b
  unfold slices_DeleteFunc_int_int_of_t_pilelaw1_GoalsFollowed_1.f
  rcases h1 with rfl | ⟨i, rfl, hi⟩
  · exact ⟨(l, t), Ev.bind e1 (Ev.pos rfl (Ev.now _)), Nat.le_refl _⟩
  · obtain ⟨r, h2, h3⟩ := DelG_loop t a b l.length hl (l.length - (i + 1)) i (i + 1) l rfl (by omega) (by omega)
    refine ⟨r, Ev.bind e1 (Ev.neg (by omega) ?_), h3⟩
    rw [wrap_succ (show i ≤ 1000000000000000 by omega)]
    exact h2
end Go.EV.Pure
namespace Go.EV.Pure
open Go Go.EV Go.RowKit
/-! Hours, counts and the best stretch of right times. -/
structure VT (l : List Int) (w0 w1 : Int) : Prop where
  w : 0 ≤ w0 ∧ w0 < w1 ∧ w1 ≤ 345686400000
  n : l.length ≤ 2000
  b : ∀ x ∈ l, w0 ≤ x ∧ x < w1
  s : l.Pairwise (· ≤ ·)
  t : timesV l w0 w1 = 0
theorem VT.of {l : List Int} {w0 w1 : Int} (h : timesV l w0 w1 = 0) : VT l w0 w1 := let ⟨a, b, c, d⟩ := times_ok h; ⟨a, b, c, d, h⟩
theorem VT.check {l : List Int} {w0 w1 : Int} (h : VT l w0 w1) : Ev (fun k => rate_CheckTimes.f k l w0 w1) 0 := by
  have := CheckTimes_ev l (by have := h.n; omega) w0 w1
  rwa [h.t] at this
theorem Outside_eq (a lo hi : Int) : kit_Outside.f a lo hi = some (decide (a < lo ∨ hi < a)) := by
  unfold kit_Outside.f
  split <;> simp [*]
/-- How many hours a window has, the last one perhaps shorter. -/
def hoursN (w0 w1 : Int) : Int := (w1 - w0 + 3599999) / 3600000
theorem hoursOf_eq (w0 w1 : Int) (h : 0 ≤ w0 ∧ w0 < w1 ∧ w1 ≤ 345686400000) : rate_hoursOf.f w0 w1 = some (hoursN w0 w1) := by
  unfold rate_hoursOf.f
  rw [wrap_id (e := w1 - w0) (by omega) (by omega), wrap_id (e := w1 - w0 + 3600000) (by omega) (by omega), wrap_id (e := w1 - w0 + 3600000 - 1) (by omega) (by omega), tdiv_pos (by omega), wrap_id (by omega) (by omega)]
  unfold hoursN
  simp only [Option.some.injEq]
  omega
theorem isLong_eq (a : Int) : rate_isLong.f a = some (decide (60000 ≤ a ∧ a ≤ 86400000)) := by
  unfold rate_isLong.f
  rw [Outside_eq]
  simp only [Option.bind_some, Option.some.injEq]
  by_cases c : 60000 ≤ a ∧ a ≤ 86400000
  · have : ¬ (a < 60000 ∨ 86400000 < a) := by omega
    simp [c, this]
  · have : a < 60000 ∨ 86400000 < a := by omega
    simp [c, this]
end Go.EV.Pure
namespace Go.EV.Pure
open Go Go.EV Go.RowKit
theorem manyIn_loop (l : List Int) (hl : l.length ≤ 140737488351232) (a b : Int) (d : Nat) : ∀ (i acc : Nat), i + d = l.length → acc ≤ i →
    Ev (fun k => pileref1_manyIn.l0 k l a b (acc : Int) (i : Int)) ((acc + cntIn (l.drop i) a b : Nat) : Int) := by
  induction d with
  | zero =>
    intro i acc hi ha
    refine Ev.step (f := fun _ => some _) (fun k => ?_) (Ev.now _)
    simp only [pileref1_manyIn.l0]
    rw [if_neg (by omega), List.drop_of_length_le (by omega)]
    simp [cntIn]
  | succ d ih =>
    intro i acc hi ha
    have hlt : i < l.length := by omega
    have hd : l.drop i = l[i] :: l.drop (i + 1) := List.drop_eq_getElem_cons hlt
    have hr := rd_get l i hlt
    have hw : wrap64 ((i : Int) + 1) = ((i + 1 : Nat) : Int) := by rw [wrap_id (by omega) (by omega)]; omega
    rw [hd]
    by_cases c : a ≤ l[i] ∧ l[i] < b
    · have h := ih (i + 1) (acc + 1) (by omega) (by omega)
      have hw2 : wrap64 ((acc : Int) + 1) = ((acc + 1 : Nat) : Int) := by rw [wrap_id (by omega) (by omega)]; omega
      have e : acc + cntIn (l[i] :: l.drop (i + 1)) a b = acc + 1 + cntIn (l.drop (i + 1)) a b := by
        simp only [cntIn, List.countP_cons, decide_eq_true_eq]
        rw [if_pos c]; omega
      rw [e]
      refine Ev.step (fun k => ?_) h
      simp only [pileref1_manyIn.l0]
      rw [if_pos (by omega), if_pos (by omega), if_pos (by omega), hr, inside_eq]
      simp only [Option.bind_some, pileref1_truth.f, decide_eq_true_eq]
      rw [if_pos c]
      simp only [Option.bind_some]
      rw [hw, hw2]
    · have h := ih (i + 1) acc (by omega) (by omega)
      have e : acc + cntIn (l[i] :: l.drop (i + 1)) a b = acc + cntIn (l.drop (i + 1)) a b := by
        simp only [cntIn, List.countP_cons, decide_eq_true_eq]
        rw [if_neg c]; omega
      have hw2 : wrap64 ((acc : Int) + 0) = (acc : Int) := by rw [wrap_id (by omega) (by omega)]; omega
      rw [e]
      refine Ev.step (fun k => ?_) h
      simp only [pileref1_manyIn.l0]
      rw [if_pos (by omega), if_pos (by omega), if_pos (by omega), hr, inside_eq]
      simp only [Option.bind_some, pileref1_truth.f, decide_eq_true_eq]
      rw [if_neg c]
      simp only [Option.bind_some]
      rw [hw, hw2]
theorem manyIn_ev (l : List Int) (hl : l.length ≤ 140737488351232) (a b : Int) : Ev (fun k => pileref1_manyIn.f k l a b) (cntIn l a b : Int) := by
  have h := manyIn_loop l hl a b l.length 0 0 (by omega) (by omega)
  simpa [pileref1_manyIn.f] using h
end Go.EV.Pure
namespace Go.EV.Pure
open Go Go.EV Go.RowKit
/-! Goals, and who is ahead. -/
theorem Concat_ev (a b : List Int) (ha : a.length ≤ 100000) (hb : b.length ≤ 100000) : Ev (fun k => slices_Concat_int_int.f k [a, b]) (a ++ b, []) := by
  have r0 : rdE e_L [a, b] 0 = a := rfl
  have r1 : rdE e_L [a, b] 1 = b := rfl
  have w1 : wrap64 (0 + (a.length : Int)) = (a.length : Int) := by rw [Int.zero_add]; exact wrap_id (by omega) (by omega)
  have w2 : wrap64 ((a.length : Int) + (b.length : Int)) = (a.length : Int) + (b.length : Int) := wrap_id (by omega) (by omega)
  have w3 : wrap64 (0 + 1) = 1 := wrap_id (by omega) (by omega)
  have w4 : wrap64 (1 + 1) = 2 := wrap_id (by omega) (by omega)
  have hG : slices_Grow_int_int.f ((a.length : Int) + (b.length : Int)) = some ([], List.replicate (a.length + b.length) eI.d) := by
    unfold slices_Grow_int_int.f
    rw [if_pos (by omega)]
    congr 3
  have l1 : Ev (fun k => slices_Concat_int_int.l1 k [a, b] 0 (List.replicate (a.length + b.length) eI.d) []) (a ++ b, []) := by
    refine Ev.succ ?_
    simp only [slices_Concat_int_int.l1, r0, w3]
    refine Ev.pos (by simp) (Ev.pos (by omega) (Ev.pos (by simp) (Ev.pos (by simp; omega) (Ev.succ ?_))))
    simp only [slices_Concat_int_int.l1, r1, w4]
    refine Ev.pos (by simp) (Ev.pos (by omega) (Ev.pos (by simp) (Ev.pos (by simp; omega) (Ev.succ ?_))))
    simp only [slices_Concat_int_int.l1]
    refine Ev.neg (by simp) ?_
    have : List.drop b.length (List.drop a.length (List.replicate (a.length + b.length) eI.d)) = [] := by simp
    rw [this]
    exact Ev.now _
  unfold slices_Concat_int_int.f
  refine Ev.succ ?_
  simp only [slices_Concat_int_int.l0, r0, w1]
  refine Ev.pos (by simp) (Ev.pos (by omega) (Ev.pos (by simp) (Ev.neg (by omega) (Ev.succ ?_))))
  simp only [slices_Concat_int_int.j8, r0, w1, w3]
  refine Ev.succ ?_
  simp only [slices_Concat_int_int.l0, r1, w2]
  refine Ev.pos (by simp) (Ev.pos (by omega) (Ev.pos (by simp) (Ev.neg (by omega) (Ev.succ ?_))))
  simp only [slices_Concat_int_int.j8, r1, w2, w4]
  refine Ev.succ ?_
  simp only [slices_Concat_int_int.l0, hG, Option.bind_some]
  exact Ev.neg (by simp) l1
theorem compact_mem {l : List Int} {x : Int} (h : x ∈ Lib.compact l) : x ∈ l := by
  unfold Lib.compact Lib.compactUpTo at h
  obtain ⟨i, hi, rfl⟩ := List.mem_map.1 h
  have hi := List.mem_range.1 (List.mem_filter.1 hi).1
  have : l.toArray[i]! = l[i] := by simp [hi]
  rw [this]
  exact List.getElem_mem hi
theorem compact_len (l : List Int) : (Lib.compact l).length ≤ l.length := by
  unfold Lib.compact Lib.compactUpTo
  rw [List.length_map]
  exact Nat.le_trans (List.length_filter_le _ _) (by simp)
/-- What is drawn from the moments of both. -/
def momentsOf (a b : List Int) : List Int := Lib.compact ((a ++ b).mergeSort fun x y => decide (x ≤ y))
theorem momentsOf_mem {a b : List Int} {x : Int} (h : x ∈ momentsOf a b) : x ∈ a ∨ x ∈ b := by
  have := compact_mem h
  rw [List.mem_mergeSort] at this
  simpa using this
theorem momentsOf_len (a b : List Int) : (momentsOf a b).length ≤ a.length + b.length := by
  have := compact_len ((a ++ b).mergeSort fun x y => decide (x ≤ y))
  unfold momentsOf
  simpa using this
theorem Ahead_of (a b : List Int) (w0 w1 : Int) (ha : VT a w0 w1) (hb : VT b w0 w1) (R : List (Int × Int))
    (hl : ∀ r9 : List Int × List Int, r9.1 = momentsOf a b → Ev (fun k => rate_Ahead.l1 k a b w0 w1 false (r9.1.length : Int) 0 [] r9.2 r9.1) (R, 0)) : Ev (fun k => rate_Ahead.f k a b w0 w1) (R, 0) := by
  have na := ha.n
  have nb := hb.n
  have r0 : rdE e_L [a, b] 0 = a := rfl
  have r1 : rdE e_L [a, b] 1 = b := rfl
  have w3 : wrap64 (0 + 1) = 1 := wrap_id (by omega) (by omega)
  have w4 : wrap64 (1 + 1) = 2 := wrap_id (by omega) (by omega)
  have hs : slices_Sort_int_int.f (a ++ b) = some ((a ++ b).mergeSort fun x y => decide (x ≤ y)) := by
    unfold slices_Sort_int_int.f
    rw [if_pos (by simp; omega)]
  obtain ⟨c, hc1, hc2⟩ : ∃ c, slices_Compact_int_int.f ((a ++ b).mergeSort fun x y => decide (x ≤ y)) = some c ∧ c.1 = momentsOf a b := by
    unfold slices_Compact_int_int.f
    rw [if_pos (by simp; omega)]
    exact ⟨_, rfl, rfl⟩
  unfold rate_Ahead.f
  refine Ev.succ ?_
  simp only [rate_Ahead.l0, r0, w3]
  refine Ev.pos (by simp) (Ev.pos (by omega) (Ev.pos (by simp) (Ev.bind ha.check (Ev.pos rfl (Ev.succ ?_)))))
  simp only [rate_Ahead.l0, r1, w4]
  refine Ev.pos (by simp) (Ev.pos (by omega) (Ev.pos (by simp) (Ev.bind hb.check (Ev.pos rfl (Ev.succ ?_)))))
  simp only [rate_Ahead.l0]
  refine Ev.neg (by simp) (Ev.bind (Concat_ev a b (by omega) (by omega)) (Ev.pos rfl ?_))
  simp only [hs, Option.bind_some, hc1]
  exact Ev.pos (by simp) (hl c hc2)
end Go.EV.Pure
namespace Go.EV.Pure
open Go Go.EV Go.RowKit
set_option linter.unusedSimpArgs false
/-! Who is ahead, by both texts. -/
theorem keepsI_iff (d : Array Int) (m : Nat) : Lib.keeps d m = true ↔ (m = 0 ∨ d[m]! ≠ d[m - 1]!) := by
  rcases Nat.eq_zero_or_pos m with h | h
  · subst h
    exact ⟨fun _ => .inl rfl, fun _ => Lib.keeps_lt_one d 0 (by omega)⟩
  · constructor
    · intro hk
      refine .inr fun e => ?_
      rw [Lib.keeps_neg h e] at hk
      cases hk
    · rintro (h0 | h0)
      · omega
      · exact Lib.keeps_pos h0
theorem compactI_run (d : Array Int) (hs : ∀ i j, i ≤ j → j < d.size → d[i]! ≤ d[j]!) : ∀ m, m ≤ d.size →
    (Lib.compactUpTo d m).Pairwise (· < ·) ∧ (∀ x, x ∈ Lib.compactUpTo d m ↔ ∃ j < m, d[j]! = x) := by
  intro m
  induction m with
  | zero =>
    intro _
    have : Lib.compactUpTo d 0 = [] := rfl
    rw [this]
    exact ⟨List.Pairwise.nil, fun x => ⟨fun h => (by cases h), fun ⟨j, hj, _⟩ => (by omega)⟩⟩
  | succ m ih =>
    intro hm
    obtain ⟨p, q⟩ := ih (by omega)
    rw [Lib.compactUpTo_succ]
    by_cases hk : Lib.keeps d m = true
    · rw [if_pos hk]
      constructor
      · refine List.pairwise_append.2 ⟨p, List.pairwise_singleton _ _, fun a ha b hb => ?_⟩
        rw [List.mem_singleton] at hb
        subst hb
        obtain ⟨j, hj, rfl⟩ := (q a).1 ha
        have h1 := hs j m (by omega) (by omega)
        rcases (keepsI_iff d m).1 hk with h0 | h0
        · omega
        · have h2 := hs j (m - 1) (by omega) (by omega)
          have h3 := hs (m - 1) m (by omega) (by omega)
          omega
      · intro x
        rw [List.mem_append, List.mem_singleton, q x]
        constructor
        · rintro (⟨j, hj, e⟩ | rfl)
          · exact ⟨j, by omega, e⟩
          · exact ⟨m, by omega, rfl⟩
        · rintro ⟨j, hj, e⟩
          rcases Nat.lt_or_ge j m with h | h
          · exact .inl ⟨j, h, e⟩
          · obtain rfl : j = m := by omega
            exact .inr e.symm
    · rw [if_neg hk, List.append_nil]
      refine ⟨p, fun x => ?_⟩
      rw [q x]
      constructor
      · rintro ⟨j, hj, e⟩
        exact ⟨j, by omega, e⟩
      · rintro ⟨j, hj, e⟩
        rcases Nat.lt_or_ge j m with h | h
        · exact ⟨j, h, e⟩
        · obtain rfl : j = m := by omega
          have hn : ¬ (j = 0 ∨ d[j]! ≠ d[j - 1]!) := fun h => hk ((keepsI_iff d j).2 h)
          have h0 : j ≠ 0 := fun e => hn (.inl e)
          have h1 : d[j]! = d[j - 1]! := Classical.byContradiction fun e => hn (.inr e)
          exact ⟨j - 1, by omega, by rw [← h1, e]⟩
theorem compact_sorted (l : List Int) : (Lib.compact (l.mergeSort fun x y => decide (x ≤ y))).Pairwise (· < ·) ∧ ∀ x, x ∈ Lib.compact (l.mergeSort fun x y => decide (x ≤ y)) ↔ x ∈ l := by
  have hs : (l.mergeSort fun x y => decide (x ≤ y)).Pairwise (fun a b => decide (a ≤ b) = true) := List.pairwise_mergeSort (fun a b c h1 h2 => by simp at *; omega) (fun a b => by simp; omega) l
  have hg : ∀ i j, i ≤ j → j < (l.mergeSort fun x y => decide (x ≤ y)).toArray.size → (l.mergeSort fun x y => decide (x ≤ y)).toArray[i]! ≤ (l.mergeSort fun x y => decide (x ≤ y)).toArray[j]! := by
    intro i j hij hj
    have hj' : j < (l.mergeSort fun x y => decide (x ≤ y)).length := by simpa using hj
    have e1 : (l.mergeSort fun x y => decide (x ≤ y)).toArray[i]! = (l.mergeSort fun x y => decide (x ≤ y))[i]'(by omega) := by
      rw [getElem!_pos _ _ (by simp at hj' ⊢; omega)]; rfl
    have e2 : (l.mergeSort fun x y => decide (x ≤ y)).toArray[j]! = (l.mergeSort fun x y => decide (x ≤ y))[j] := by
      rw [getElem!_pos _ _ (by simpa using hj')]; rfl
    rw [e1, e2]
    rcases Nat.lt_or_ge i j with h | h
    · have := List.pairwise_iff_getElem.1 hs i j (by omega) hj' h
      simpa using this
    · obtain rfl : i = j := by omega
      exact Int.le_refl _
  obtain ⟨p, q⟩ := compactI_run _ hg (l.mergeSort fun x y => decide (x ≤ y)).length (by simp)
  refine ⟨p, fun x => ?_⟩
  show x ∈ Lib.compactUpTo _ _ ↔ _
  rw [q x, ← List.mem_mergeSort (le := fun x y => decide (x ≤ y))]
  constructor
  · rintro ⟨j, hj, rfl⟩
    rw [getElem!_pos _ _ (by simpa using hj)]
    exact List.getElem_mem _
  · intro hx
    obtain ⟨j, hj, rfl⟩ := List.getElem_of_mem hx
    exact ⟨j, hj, by rw [getElem!_pos _ _ (by simpa using hj)]; rfl⟩
theorem lt_unique {a b : List Int} (ha : a.Pairwise (· < ·)) (hb : b.Pairwise (· < ·)) (h : ∀ x, x ∈ a ↔ x ∈ b) : a = b := by
  refine List.Perm.eq_of_pairwise (le := fun a b => a < b) (fun a b _ _ h1 h2 => by omega) ha hb ?_
  exact (List.perm_ext_iff_of_nodup (ha.imp fun h => by omega) (hb.imp fun h => by omega)).2 h
def edgesV (a b : List Int) (w0 w1 : Int) : List Int := Lib.compact (([w0, w1] ++ (a ++ b)).mergeSort fun x y => decide (x ≤ y))
theorem edges_eq (a b : List Int) (w0 w1 : Int) (ha : VT a w0 w1) (hb : VT b w0 w1) : edgesV a b w0 w1 = momentsOf a b ++ [w1] ∨ (edgesV a b w0 w1 = w0 :: (momentsOf a b ++ [w1]) ∧ w0 ∉ a ∧ w0 ∉ b) := by
  obtain ⟨p1, q0⟩ := compact_sorted ([w0, w1] ++ (a ++ b))
  have q1 : ∀ x, x ∈ edgesV a b w0 w1 ↔ x ∈ [w0, w1] ++ (a ++ b) := q0
  obtain ⟨p2, q2⟩ := compact_sorted (a ++ b)
  have hw := ha.w
  have hM : ∀ x, x ∈ momentsOf a b ↔ x ∈ a ∨ x ∈ b := fun x => by unfold momentsOf; rw [q2 x, List.mem_append]
  have hlt : ∀ x ∈ momentsOf a b, w0 ≤ x ∧ x < w1 := fun x hx => ((hM x).1 hx).elim (ha.b x) (hb.b x)
  have hp : (momentsOf a b ++ [w1]).Pairwise (· < ·) := List.pairwise_append.2 ⟨p2, List.pairwise_singleton _ _, fun x hx y hy => by
    rw [List.mem_singleton] at hy
    subst hy
    exact (hlt x hx).2⟩
  by_cases c : w0 ∈ a ∨ w0 ∈ b
  · refine .inl (lt_unique p1 hp fun x => ?_)
    rw [q1 x]
    simp only [List.mem_append, List.mem_cons, List.not_mem_nil, or_false]
    rw [hM x]
    constructor
    · rintro ((rfl | rfl) | h)
      · exact .inl c
      · exact .inr rfl
      · exact .inl h
    · rintro (h | rfl)
      · exact .inr h
      · exact .inl (.inr rfl)
  · refine .inr ⟨lt_unique p1 (List.pairwise_cons.2 ⟨fun x hx => ?_, hp⟩) fun x => ?_, fun h => c (.inl h), fun h => c (.inr h)⟩
    · rcases List.mem_append.1 hx with hx | hx
      · have h1 := (hlt x hx).1
        rcases Int.lt_or_eq_of_le h1 with h2 | h2
        · exact h2
        · exact absurd ((hM w0).1 (h2 ▸ hx)) c
      · rw [List.mem_singleton] at hx
        omega
    · rw [q1 x]
      simp only [List.mem_append, List.mem_cons, List.not_mem_nil, or_false]
      rw [hM x]
      constructor
      · rintro ((rfl | rfl) | h)
        · exact .inl rfl
        · exact .inr (.inr rfl)
        · exact .inr (.inl h)
      · rintro (rfl | h | rfl)
        · exact .inl (.inl rfl)
        · exact .inr h
        · exact .inl (.inr rfl)
/-! Both walks over the moments. -/
def setLast (o : List (Int × Int)) (z : Int) : List (Int × Int) := o.set (o.length - 1) ((o.getD (o.length - 1) (0, 0)).1, z)
def stepR (A : Int → Bool) (o : List (Int × Int)) (x y : Int) : List (Int × Int) :=
  if A x = true then (if 0 < o.length ∧ (o.getD (o.length - 1) (0, 0)).2 = x then setLast o y else o ++ [(x, y)]) else o
def resR (A : Int → Bool) : List (Int × Int) → List Int → List (Int × Int)
  | o, x :: y :: r => resR A (stepR A o x y) (y :: r)
  | o, _ => o
def stepP (A : Int → Bool) (w1 : Int) (f : Bool) (o : List (Int × Int)) (x : Int) : List (Int × Int) :=
  if A x = true then (if f = true then o else o ++ [(x, w1)]) else (if f = true then setLast o x else o)
def resP (A : Int → Bool) (w1 : Int) : Bool → List (Int × Int) → List Int → List (Int × Int)
  | _, o, [] => o
  | f, o, x :: r => resP A w1 (A x) (stepP A w1 f o x) r
theorem setLast_app (b : List (Int × Int)) (p q z : Int) : setLast (b ++ [(p, q)]) z = b ++ [(p, z)] := by
  unfold setLast
  simp [List.getD]
theorem last_app (b : List (Int × Int)) (p q : Int) : 0 < (b ++ [(p, q)]).length ∧ ((b ++ [(p, q)]).getD ((b ++ [(p, q)]).length - 1) (0, 0)).2 = q := by simp [List.getD]
def hd1 (M : List Int) (w1 : Int) : Int := (M ++ [w1]).headD 0
theorem res_same (A : Int → Bool) (w1 : Int) (M : List Int) : (M ++ [w1]).Pairwise (· < ·) →
    (∀ o : List (Int × Int), (0 < o.length → (o.getD (o.length - 1) (0, 0)).2 < hd1 M w1) → resP A w1 false o M = resR A o (M ++ [w1])) ∧
    (∀ (b : List (Int × Int)) (p : Int), resP A w1 true (b ++ [(p, w1)]) M = resR A (b ++ [(p, hd1 M w1)]) (M ++ [w1])) := by
  induction M with
  | nil => intro _; exact ⟨fun o _ => rfl, fun b p => rfl⟩
  | cons x r ih =>
    intro hp
    have hp' := List.pairwise_cons.1 (show (x :: (r ++ [w1])).Pairwise (· < ·) from hp)
    obtain ⟨ihF, ihT⟩ := ih hp'.2
    obtain ⟨y, r', hy⟩ : ∃ y r', r ++ [w1] = y :: r' := by
      cases r with
      | nil => exact ⟨w1, [], rfl⟩
      | cons y r => exact ⟨y, r ++ [w1], rfl⟩
    have hh : hd1 r w1 = y := by unfold hd1; rw [hy]; rfl
    have hx : hd1 (x :: r) w1 = x := rfl
    have hxy : x < y := hp'.1 y (by rw [hy]; exact List.mem_cons_self)
    have hR : ∀ o, resR A o ((x :: r) ++ [w1]) = resR A (stepR A o x y) (r ++ [w1]) := fun o => by
      show resR A o (x :: (r ++ [w1])) = _
      rw [hy]
      rfl
    rw [hh] at ihF ihT
    rw [hx]
    constructor
    · intro o ho
      rw [hR]
      show resP A w1 (A x) (stepP A w1 false o x) r = _
      unfold stepP stepR
      by_cases c : A x = true
      · rw [if_pos c, if_pos c, c, if_neg (by simp), if_neg (fun h => by have := ho h.1; omega)]
        exact ihT o x
      · rw [if_neg c, if_neg c, if_neg (by simp), show A x = false by simpa using c]
        exact ihF o fun h => by have := ho h; omega
    · intro b p
      rw [hR]
      show resP A w1 (A x) (stepP A w1 true (b ++ [(p, w1)]) x) r = _
      unfold stepP stepR
      by_cases c : A x = true
      · rw [if_pos c, if_pos c, c, if_pos rfl, if_pos (last_app b p x), setLast_app]
        exact ihT b p
      · rw [if_neg c, if_neg c, if_pos rfl, setLast_app, show A x = false by simpa using c]
        exact ihF _ fun _ => by rw [(last_app b p x).2]; exact hxy
/-- Is the first one ahead behind a moment? -/
def aheadV (a b : List Int) (x : Int) : Bool := decide (cntLt b (x + 1) < cntLt a (x + 1))
theorem cntLt_zero {l : List Int} {w0 w1 z : Int} (h : VT l w0 w1) (hz : z ≤ w0) : cntLt l z = 0 := by
  unfold cntLt
  rw [List.countP_eq_zero]
  intro x hx
  have := (h.b x hx).1
  simp only [decide_eq_true_eq]
  omega
theorem cntIn_all {l : List Int} {w0 w1 : Int} (h : VT l w0 w1) (z : Int) : cntIn l w0 z = cntLt l z := by
  have h0 := cntLt_zero h (Int.le_refl w0)
  obtain ⟨h1, h2⟩ := cnt_split l w0 z
  rcases Int.le_total w0 z with c | c
  · have := h1 c; omega
  · have := h2 c; omega
theorem res_both (a b : List Int) (w0 w1 : Int) (ha : VT a w0 w1) (hb : VT b w0 w1) : resP (aheadV a b) w1 false [] (momentsOf a b) = resR (aheadV a b) [] (edgesV a b w0 w1) := by
  obtain ⟨p2, q2⟩ := compact_sorted (a ++ b)
  have hM : ∀ x, x ∈ momentsOf a b ↔ x ∈ a ∨ x ∈ b := fun x => by unfold momentsOf; rw [q2 x, List.mem_append]
  have hp : (momentsOf a b ++ [w1]).Pairwise (· < ·) := List.pairwise_append.2 ⟨p2, List.pairwise_singleton _ _, fun x hx y hy => by
    rw [List.mem_singleton] at hy
    subst hy
    exact (((hM x).1 hx).elim (ha.b x) (hb.b x)).2⟩
  have key := (res_same (aheadV a b) w1 (momentsOf a b) hp).1 [] (fun h => by simp at h)
  rcases edges_eq a b w0 w1 ha hb with e | ⟨e, na, nb⟩
  · rw [e]; exact key
  · rw [e, key]
    have hA : aheadV a b w0 = false := by
      unfold aheadV
      have h1 : cntLt a (w0 + 1) = 0 := by
        unfold cntLt
        rw [List.countP_eq_zero]
        intro x hx
        have := (ha.b x hx).1
        have hne : x ≠ w0 := fun h => na (h ▸ hx)
        simp only [decide_eq_true_eq]
        omega
      rw [h1]
      simp
    cases hq : momentsOf a b ++ [w1] with
    | nil => simp at hq
    | cons y r =>
      show _ = resR (aheadV a b) (stepR (aheadV a b) [] w0 y) (y :: r)
      unfold stepR
      rw [if_neg (by rw [hA]; simp)]
/-- The program's walk. -/
theorem AheadP_loop (a b : List Int) (w0 w1 : Int) (ha : VT a w0 w1) (hb : VT b w0 w1) (M t : List Int) (hM : M.length ≤ 10000) (hm : ∀ x ∈ M, w0 ≤ x ∧ x < w1) (d : Nat) : ∀ (i : Nat) (f : Bool) (o : List (Int × Int)), i + d = M.length → o.length ≤ i → (f = true → 0 < o.length) →
    Ev (fun k => rate_Ahead.l1 k a b w0 w1 f (M.length : Int) (i : Int) o t M) (resP (aheadV a b) w1 f o (M.drop i), 0) := by
  have na := ha.n
  have nb := hb.n
  have hw := ha.w
  induction d with
  | zero =>
    intro i f o hi ho hf
    have : i = M.length := by omega
    subst this
    refine Ev.step (f := fun _ => some _) (fun k => ?_) (Ev.now _)
    simp only [rate_Ahead.l1]
    rw [if_neg (by omega), List.drop_of_length_le (by omega)]
    rfl
  | succ d ih =>
    intro i f o hi ho hf
    have hlt : i < M.length := by omega
    have hd : M.drop i = M[i] :: M.drop (i + 1) := List.drop_eq_getElem_cons hlt
    have hb2 := hm _ (List.getElem_mem hlt)
    have ea := before_ev a (by omega) ha.s (M[i] + 1)
    have eb := before_ev b (by omega) hb.s (M[i] + 1)
    have hw1 : wrap64 (M[i] + 1) = M[i] + 1 := wrap_id (by omega) (by omega)
    have hlast : 0 < o.length → wrap64 ((o.length : Int) - 1) = ((o.length - 1 : Nat) : Int) := fun h => by rw [wrap_id (by omega) (by omega)]; omega
    have j20 : ∀ o' : List (Int × Int), o' = stepP (aheadV a b) w1 f o M[i] → Ev (fun k => rate_Ahead.j20 k a b w0 w1 (M.length : Int) (i : Int) M (aheadV a b M[i]) o' t) (resP (aheadV a b) w1 f o (M.drop i), 0) := fun o' h => by
      refine Ev.succ ?_
      simp only [rate_Ahead.j20]
      rw [wrap_succ (by omega), hd]
      show Ev _ (resP (aheadV a b) w1 (aheadV a b M[i]) (stepP (aheadV a b) w1 f o M[i]) (M.drop (i + 1)), 0)
      rw [← h]
      refine ih (i + 1) _ o' (by omega) ?_ fun hA => ?_
      · rw [h]; unfold stepP setLast
        repeat' split
        all_goals first | omega | (simp; done) | (simp; omega)
      · rw [h]; unfold stepP
        rw [if_pos hA]
        split
        · rename_i c; exact hf c
        · simp
    refine Ev.succ ?_
    simp only [rate_Ahead.l1, rd_get _ _ hlt, hw1]
    refine Ev.pos (by omega) (Ev.pos (by omega) (Ev.pos (by omega) (Ev.bind ea (Ev.bind eb ?_))))
    have hdec : decide ((cntLt a (M[i] + 1) : Int) > (cntLt b (M[i] + 1) : Int)) = aheadV a b M[i] := by
      unfold aheadV
      by_cases c : cntLt b (M[i] + 1) < cntLt a (M[i] + 1)
      · rw [decide_eq_true c]; simpa using c
      · rw [decide_eq_false c]; simpa using c
    rw [hdec]
    by_cases c : cntLt b (M[i] + 1) < cntLt a (M[i] + 1)
    · have hA : aheadV a b M[i] = true := by unfold aheadV; simpa using c
      refine Ev.pos (by omega) ?_
      cases f with
      | true =>
        refine Ev.pos rfl (Ev.pos (by omega) (j20 _ ?_))
        unfold stepP
        rw [if_pos hA, if_pos rfl]
      | false =>
        refine Ev.neg (by simp) (Ev.pos (by omega) (j20 _ ?_))
        unfold stepP
        rw [if_pos hA, if_neg (by simp)]
    · have hA : aheadV a b M[i] = false := by unfold aheadV; simpa using c
      refine Ev.neg (by omega) (Ev.neg (by omega) ?_)
      cases f with
      | true =>
        have ho0 := hf rfl
        rw [hlast ho0]
        refine Ev.pos rfl (Ev.pos (by omega) (Ev.pos (by omega) (j20 _ ?_)))
        unfold stepP setLast
        rw [if_neg (by rw [hA]; simp), if_pos rfl, Int.toNat_natCast]
        rfl
      | false =>
        refine Ev.neg (by simp) (j20 _ ?_)
        unfold stepP
        rw [if_neg (by rw [hA]; simp), if_neg (by simp)]
/-- The reference's walk. -/
theorem AheadR_loop (a b : List Int) (w0 w1 : Int) (ha : VT a w0 w1) (hb : VT b w0 w1) (M : List Int) (hM : M.length ≤ 10000) (hm : ∀ x ∈ M, w0 ≤ x ∧ x ≤ w1) (d : Nat) : ∀ (i : Nat) (o : List (Int × Int)), i + d = M.length → o.length ≤ i →
    Ev (fun k => pileref1_AheadOf.l0 k a b w0 w1 M (i : Int) o) (resR (aheadV a b) o (M.drop i)) := by
  have na := ha.n
  have nb := hb.n
  have hw := ha.w
  induction d with
  | zero =>
    intro i o hi ho
    refine Ev.step (f := fun _ => some _) (fun k => ?_) (Ev.now _)
    simp only [pileref1_AheadOf.l0]
    rw [wrap_succ (by omega), if_neg (by omega), List.drop_of_length_le (by omega)]
    rfl
  | succ d ih =>
    intro i o hi ho
    have hlt : i < M.length := by omega
    have hd : M.drop i = M[i] :: M.drop (i + 1) := List.drop_eq_getElem_cons hlt
    by_cases c1 : i + 1 < M.length
    · have hd2 : M.drop (i + 1) = M[i + 1] :: M.drop (i + 1 + 1) := List.drop_eq_getElem_cons c1
      have hb2 := hm _ (List.getElem_mem hlt)
      have hw1 : wrap64 (M[i] + 1) = M[i] + 1 := wrap_id (by omega) (by omega)
      have ea := manyIn_ev a (by omega) w0 (M[i] + 1)
      have eb := manyIn_ev b (by omega) w0 (M[i] + 1)
      rw [cntIn_all ha] at ea
      rw [cntIn_all hb] at eb
      have hlast : 0 < o.length → wrap64 ((o.length : Int) - 1) = ((o.length - 1 : Nat) : Int) := fun h => by rw [wrap_id (by omega) (by omega)]; omega
      have j7 : ∀ o' : List (Int × Int), o' = stepR (aheadV a b) o M[i] M[i + 1] → Ev (fun k => pileref1_AheadOf.j7 k a b w0 w1 M (i : Int) o') (resR (aheadV a b) o (M.drop i)) := fun o' h => by
        refine Ev.succ ?_
        simp only [pileref1_AheadOf.j7]
        rw [wrap_succ (by omega), hd, hd2]
        show Ev _ (resR (aheadV a b) (stepR (aheadV a b) o M[i] M[i + 1]) (M[i + 1] :: M.drop (i + 1 + 1)))
        rw [← h, ← hd2]
        refine ih (i + 1) o' (by omega) ?_
        rw [h]; unfold stepR setLast
        repeat' split
        all_goals first | omega | (simp; done) | (simp; omega)
      refine Ev.succ ?_
      simp only [pileref1_AheadOf.l0, rd_get _ _ hlt, hw1, wrap_succ (show i ≤ 1000000000000000 by omega), rd_get _ _ c1]
      refine Ev.pos (by omega) (Ev.pos (by omega) (Ev.pos (by omega) (Ev.bind ea (Ev.bind eb ?_))))
      by_cases c : cntLt b (M[i] + 1) < cntLt a (M[i] + 1)
      · have hA : aheadV a b M[i] = true := by unfold aheadV; simpa using c
        refine Ev.neg (by omega) ?_
        by_cases c2 : 0 < o.length
        · rw [hlast c2]
          have hr : rdE e_II o ((o.length - 1 : Nat) : Int) = o.getD (o.length - 1) (0, 0) := by
            rw [rdE_get e_II o _ (by omega)]
            simp [List.getD, show o.length - 1 < o.length by omega]
          rw [hr]
          refine Ev.pos (by omega) (Ev.pos (by omega) (Ev.pos (by omega) (Ev.pos (by omega) (Ev.pos (by omega) ?_))))
          by_cases c3 : (o.getD (o.length - 1) (0, 0)).2 = M[i]
          · refine Ev.pos c3 (Ev.pos (by omega) (Ev.pos (by omega) (Ev.pos (by omega) (Ev.pos (by omega) (j7 _ ?_)))))
            unfold stepR setLast
            rw [if_pos hA, if_pos ⟨c2, c3⟩, Int.toNat_natCast]
          · refine Ev.neg c3 (Ev.pos (by omega) (Ev.pos (by omega) (Ev.pos (by omega) (Ev.pos (by omega) (Ev.pos (by simp; omega) (j7 _ ?_))))))
            unfold stepR
            rw [if_pos hA, if_neg (fun h => c3 h.2)]
        · refine Ev.neg (by omega) (Ev.pos (by omega) (Ev.pos (by omega) (Ev.pos (by omega) (Ev.pos (by omega) (Ev.pos (by simp; omega) (j7 _ ?_))))))
          unfold stepR
          rw [if_pos hA, if_neg (fun h => c2 h.1)]
      · have hA : aheadV a b M[i] = false := by unfold aheadV; simpa using c
        refine Ev.pos (by omega) (j7 _ ?_)
        unfold stepR
        rw [if_neg (by rw [hA]; simp)]
    · refine Ev.step (f := fun _ => some _) (fun k => ?_) (Ev.now _)
      simp only [pileref1_AheadOf.l0]
      rw [wrap_succ (by omega), if_neg (by omega), hd, List.drop_of_length_le (by omega)]
      rfl
theorem Ahead_same (a b : List Int) (w0 w1 : Int) (ha : VT a w0 w1) (hb : VT b w0 w1) :
    ∃ R : List (Int × Int), R.length ≤ 10000 ∧ Ev (fun k => rate_Ahead.f k a b w0 w1) (R, 0) ∧ Ev (fun k => pileref1_AheadOf.f k a b w0 w1) R := by
  have na := ha.n
  have nb := hb.n
  have hw := ha.w
  have hml := momentsOf_len a b
  have lenP : ∀ (M : List Int) (f : Bool) (o : List (Int × Int)), (resP (aheadV a b) w1 f o M).length ≤ o.length + M.length := by
    intro M
    induction M with
    | nil => intro f o; exact Nat.le_refl _
    | cons x r ih =>
      intro f o
      have := ih (aheadV a b x) (stepP (aheadV a b) w1 f o x)
      have h2 : (stepP (aheadV a b) w1 f o x).length ≤ o.length + 1 := by
        unfold stepP setLast
        repeat' split
        all_goals simp
      show (resP (aheadV a b) w1 (aheadV a b x) (stepP (aheadV a b) w1 f o x) r).length ≤ _
      rw [List.length_cons]
      omega
  refine ⟨resP (aheadV a b) w1 false [] (momentsOf a b), ?_, ?_, ?_⟩
  · have := lenP (momentsOf a b) false []
    simp only [List.length_nil] at this
    omega
  · refine Ahead_of a b w0 w1 ha hb _ fun r9 e9 => ?_
    obtain ⟨M, t⟩ := r9
    simp only at e9
    subst e9
    exact AheadP_loop a b w0 w1 ha hb (momentsOf a b) t (by omega) (fun x hx => (momentsOf_mem hx).elim (ha.b x) (hb.b x)) (momentsOf a b).length 0 false [] (by omega) (Nat.le_refl _) (fun h => by cases h)
  · rw [res_both a b w0 w1 ha hb]
    obtain ⟨p1, q1⟩ := compact_sorted ([w0, w1] ++ (a ++ b))
    have hl : (edgesV a b w0 w1).length ≤ 10000 := by
      have := compact_len (([w0, w1] ++ (a ++ b)).mergeSort fun x y => decide (x ≤ y))
      unfold edgesV
      rw [List.length_mergeSort, List.length_append, List.length_append] at this
      simp only [List.length_cons, List.length_nil] at this
      omega
    have hs : slices_Sort_int_int.f ([w0, w1] ++ (a ++ b)) = some (([w0, w1] ++ (a ++ b)).mergeSort fun x y => decide (x ≤ y)) := by
      unfold slices_Sort_int_int.f
      rw [if_pos (by simp; omega)]
    obtain ⟨c, hc1, hc2⟩ : ∃ c, slices_Compact_int_int.f (([w0, w1] ++ (a ++ b)).mergeSort fun x y => decide (x ≤ y)) = some c ∧ c.1 = edgesV a b w0 w1 := by
      unfold slices_Compact_int_int.f
      rw [if_pos (by simp; omega)]
      exact ⟨_, rfl, rfl⟩
    unfold pileref1_AheadOf.f
    refine Ev.bind (Concat_ev a b (by omega) (by omega)) (Ev.pos (by simp; omega) ?_)
    simp only [hs, Option.bind_some, hc1]
    refine Ev.pos (by simp) ?_
    rw [hc2]
    exact AheadR_loop a b w0 w1 ha hb (edgesV a b w0 w1) hl (fun x hx => by
      have := (q1 x).1 hx
      simp only [List.mem_append, List.mem_cons, List.not_mem_nil, or_false] at this
      rcases this with (rfl | rfl) | h | h
      · omega
      · omega
      · have := ha.b x h; omega
      · have := hb.b x h; omega) (edgesV a b w0 w1).length 0 [] (by omega) (Nat.le_refl _)
end Go.EV.Pure
namespace Go.EV.Pure
open Go Go.EV Go.RowKit
set_option linter.unusedSimpArgs false
def orV : List Int → Int
  | [] => 0
  | x :: r => if x = 0 then orV r else x
theorem orV_z {x : Int} {r : List Int} (h : x = 0) : orV (x :: r) = orV r := if_pos h
theorem orV_n {x : Int} {r : List Int} (h : x ≠ 0) : orV (x :: r) = x := if_neg h
theorem Or_loop (l : List Int) (hl : l.length ≤ 100) (d : Nat) : ∀ i : Nat, i + d = l.length → Ev (fun k => cmp_Or_api_Errno.l0 k l (i : Int)) (orV (l.drop i)) := by
  induction d with
  | zero =>
    intro i hi
    refine Ev.step (f := fun _ => some _) (fun k => ?_) (Ev.now _)
    simp only [cmp_Or_api_Errno.l0]
    rw [if_neg (by omega), List.drop_of_length_le (by omega)]
    rfl
  | succ d ih =>
    intro i hi
    have hlt : i < l.length := by omega
    have hd : l.drop i = l[i] :: l.drop (i + 1) := List.drop_eq_getElem_cons hlt
    refine Ev.succ ?_
    simp only [cmp_Or_api_Errno.l0, rd_get l i hlt, wrap_succ (show i ≤ 1000000000000000 by omega)]
    rw [hd]
    refine Ev.pos (by omega) (Ev.pos (by omega) (Ev.pos (by omega) ?_))
    unfold orV
    by_cases c : l[i] = 0
    · rw [if_pos c]
      exact Ev.pos c (ih (i + 1) (by omega))
    · rw [if_neg c]
      exact Ev.neg c (Ev.now _)
theorem Or_ev (l : List Int) (hl : l.length ≤ 100) : Ev (fun k => cmp_Or_api_Errno.f k l) (orV l) := by
  have := Or_loop l hl l.length 0 (by omega)
  simpa [cmp_Or_api_Errno.f] using this
def spanV (a lo hi : Int) : Int := if lo ≤ a ∧ a ≤ hi then 0 else 1
theorem SpanFault_eq (a lo hi : Int) : pileref1_SpanFault.f a lo hi = some (spanV a lo hi) := by
  unfold pileref1_SpanFault.f pileref1_in.f spanV
  by_cases c : lo ≤ a
  · by_cases c2 : a ≤ hi <;> simp [c, c2]
  · simp [c]
theorem MomentFault_eq (a : Int) : pileref1_MomentFault.f a = some (spanV a 0 345686399999) := by
  unfold pileref1_MomentFault.f
  rw [SpanFault_eq]
  rfl
theorem LongFault_eq (a : Int) : pileref1_LongFault.f a = some (spanV a 60000 86400000) := by
  unfold pileref1_LongFault.f
  rw [SpanFault_eq]
  rfl
theorem IsMoment_eq (a : Int) : kit_IsMoment.f a = some (decide (0 ≤ a ∧ a ≤ 345686399999)) := by
  unfold kit_IsMoment.f
  rw [Outside_eq]
  simp only [Option.bind_some, Option.some.injEq]
  by_cases c : 0 ≤ a ∧ a ≤ 345686399999
  · rw [decide_eq_true c, decide_eq_false (by omega)]; rfl
  · rw [decide_eq_false c, decide_eq_true (by omega)]; rfl
theorem EqualI_self (l : List Int) (hl : l.length ≤ 140737488351232) : Ev (fun k => slices_Equal_int_int.f k l l) true := by
  obtain ⟨v, rfl, hv⟩ := loop l (fun k i (_ : Unit) => slices_Equal_int_int.l0 k l l i) (fun _ _ => True) (fun v => v = true)
    (fun i _ hi _ => .inl ⟨(), trivial, fun v hv => Ev.succ (by
      simp only [slices_Equal_int_int.l0]
      rw [wrap_succ (by omega)]
      exact Ev.pos (by omega) (Ev.pos (by omega) (Ev.pos (by omega) (Ev.pos (by omega) (Ev.pos (by omega) (Ev.pos trivial hv))))))⟩)
    (fun _ _ => ⟨true, rfl, Ev.step (f := fun _ => some _) (fun k => by simp only [slices_Equal_int_int.l0]; rw [if_neg (by omega)]) (Ev.now _)⟩) 0 () (by omega) trivial
  unfold slices_Equal_int_int.f
  exact Ev.pos rfl hv
theorem EqualW_self (l : List (Int × Int)) (hl : l.length ≤ 140737488351232) : Ev (fun k => slices_Equal_api_Window_api_Window.f k l l) true := by
  obtain ⟨v, rfl, hv⟩ := loop l (fun k i (_ : Unit) => slices_Equal_api_Window_api_Window.l0 k l l i) (fun _ _ => True) (fun v => v = true)
    (fun i _ hi _ => .inl ⟨(), trivial, fun v hv => Ev.succ (by
      simp only [slices_Equal_api_Window_api_Window.l0]
      rw [wrap_succ (by omega)]
      exact Ev.pos (by omega) (Ev.pos (by omega) (Ev.pos (by omega) (Ev.pos (by omega) (Ev.pos (by omega) (Ev.pos (by simp) hv))))))⟩)
    (fun _ _ => ⟨true, rfl, Ev.step (f := fun _ => some _) (fun k => by simp only [slices_Equal_api_Window_api_Window.l0]; rw [if_neg (by omega)]) (Ev.now _)⟩) 0 () (by omega) trivial
  unfold slices_Equal_api_Window_api_Window.f
  exact Ev.pos rfl hv
theorem rated_ev : Ev (fun k => (pilelaw1_rated.f k).bind fun r => Option.some r) true := Ev.bind (Ev.from (f := fun k => pilelaw1_rated.f k) (v := true) 60 fun k => (by kernel_rfl : pilelaw1_rated.f (k + 60) = some true)) (Ev.now _)
/-! Goals. -/
def floorV (a b : Int) : Int := if Int.tmod a b < 0 then wrap64 ((wrap64 (Int.tdiv a b)) - 1) else wrap64 (Int.tdiv a b)
theorem FloorK_ev (a b : Int) (hb : b ≠ 0) : Ev (fun k => kit_Floor.f k a b) (floorV a b) := by
  unfold kit_Floor.f floorV
  refine Ev.neg hb (Ev.neg hb ?_)
  by_cases c : Int.tmod a b < 0
  · rw [if_pos c]; exact Ev.pos c (Ev.from 1 fun k => rfl)
  · rw [if_neg c]; exact Ev.neg c (Ev.from 1 fun k => rfl)
theorem FloorR_ev (a b : Int) (hb : b ≠ 0) : Ev (fun k => pileref1_floor.f k a b) (floorV a b) := by
  unfold pileref1_floor.f floorV
  refine Ev.neg hb (Ev.neg hb ?_)
  by_cases c : Int.tmod a b < 0
  · rw [if_pos c]; exact Ev.pos c (Ev.from 1 fun k => rfl)
  · rw [if_neg c]; exact Ev.neg c (Ev.from 1 fun k => rfl)
theorem HoursFault_eq (w0 w1 : Int) (h : 0 ≤ w0 ∧ w0 < w1 ∧ w1 ≤ 345686400000) : pileref1_HoursFault.f w0 w1 = some (if hoursN w0 w1 > 1000 then 2 else 0) := by
  unfold pileref1_HoursFault.f
  rw [wrap_id (e := w1 - w0) (by omega) (by omega), wrap_id (e := w1 - w0 + 3600000) (by omega) (by omega), wrap_id (e := w1 - w0 + 3600000 - 1) (by omega) (by omega), tdiv_pos (by omega), wrap_id (by omega) (by omega)]
  have e : (w1 - w0 + 3600000 - 1) / 3600000 = hoursN w0 w1 := by unfold hoursN; omega
  rw [e]
  split <;> rfl
theorem Goal_loop (a : List Int) (w0 w1 : Int) (h : VT a w0 w1) (g : Int) (H : Nat) (hH : hoursN w0 w1 = (H : Int)) (hH2 : H ≤ 1000) (d : Nat) : ∀ (i : Nat) (o : List Int), i + d = H → o.length = i →
    ∃ G : List Int, G.length = H ∧ Ev (fun k => rate_Goal.l0 k a w0 w1 g (H : Int) (i : Int) o) (G, 0) ∧ Ev (fun k => pileref1_GoalOf.l0 k a w0 w1 g (w0 + (i : Int) * 3600000) o) G := by
  have hw := h.w
  have hn := h.n
  unfold hoursN at hH
  induction d with
  | zero =>
    intro i o hi ho
    refine ⟨o, by omega, Ev.step (f := fun _ => some _) (fun k => ?_) (Ev.now _), Ev.step (f := fun _ => some _) (fun k => ?_) (Ev.now _)⟩
    · simp only [rate_Goal.l0]
      rw [if_neg (by omega)]
    · simp only [pileref1_GoalOf.l0]
      rw [if_neg (by omega)]
  | succ d ih =>
    intro i o hi ho
    obtain ⟨e, he⟩ : ∃ e, e = mn (w0 + ((i + 1 : Nat) : Int) * 3600000) w1 := ⟨_, rfl⟩
    have e1 : wrap64 (((i + 1 : Nat) : Int) * 3600000) = ((i + 1 : Nat) : Int) * 3600000 := wrap_id (by omega) (by omega)
    have e2 : wrap64 (w0 + ((i + 1 : Nat) : Int) * 3600000) = w0 + ((i + 1 : Nat) : Int) * 3600000 := wrap_id (by omega) (by omega)
    have e3 : wrap64 (w0 + (i : Int) * 3600000 + 3600000) = w0 + ((i + 1 : Nat) : Int) * 3600000 := by rw [wrap_id (by omega) (by omega)]; omega
    have e4 : wrap64 (w1 - w0) = w1 - w0 := wrap_id (by omega) (by omega)
    have hb := before_ev a (by omega) h.s e
    have hm := manyIn_ev a (by omega) w0 e
    rw [cntIn_all h] at hm
    obtain ⟨V, hV⟩ : ∃ V, V = floorV (wrap64 ((wrap64 ((cntLt a e : Int) * (w1 - w0))) - (wrap64 (g * (wrap64 (e - w0)))))) (w1 - w0) := ⟨_, rfl⟩
    obtain ⟨G, g1, g2, g3⟩ := ih (i + 1) (o ++ [V]) (by omega) (by simp [ho])
    refine ⟨G, g1, Ev.succ ?_, Ev.succ ?_⟩
    · simp only [rate_Goal.l0, wrap_succ (show i ≤ 1000000000000000 by omega), e1, e2, e4]
      rw [← he]
      refine Ev.pos (by omega) (Ev.bind hb (Ev.bind (FloorK_ev _ _ (by omega)) (Ev.pos (by omega) ?_)))
      rw [← hV]
      exact g2
    · simp only [pileref1_GoalOf.l0, e3, e4]
      rw [← he]
      refine Ev.pos (by omega) (Ev.bind hm (Ev.bind (FloorR_ev _ _ (by omega)) (Ev.pos (by omega) ?_)))
      rw [← hV]
      exact g3
/-- The first fault of goals. -/
def goalF (a : List Int) (w0 w1 g : Int) : Int := if orV [timesV a w0 w1, spanV g 0 99999] = 0 then (if hoursN w0 w1 > 1000 then 2 else 0) else orV [timesV a w0 w1, spanV g 0 99999]
theorem Goal_same (a : List Int) (ha : a.length ≤ 1000) (w0 w1 g : Int) :
    ∃ G : List Int, Ev (fun k => rate_Goal.f k a w0 w1 g) (G, goalF a w0 w1 g) ∧ G.length ≤ 1000 ∧ (goalF a w0 w1 g ≠ 0 → G = []) ∧ (goalF a w0 w1 g = 0 → Ev (fun k => pileref1_GoalOf.f k a w0 w1 g) G) := by
  have hc := CheckTimes_ev a (by omega) w0 w1
  unfold rate_Goal.f goalF
  by_cases c : timesV a w0 w1 = 0
  · have h := VT.of c
    have hO : kit_Outside.f g 0 99999 = some (decide (g < 0 ∨ 99999 < g)) := Outside_eq _ _ _
    rw [c] at hc ⊢
    have e1 : orV [0, spanV g 0 99999] = spanV g 0 99999 := by
      show (if (0 : Int) = 0 then _ else _) = _
      rw [if_pos rfl]
      unfold orV
      split
      · rename_i q; rw [q]; rfl
      · rfl
    rw [e1]
    by_cases c2 : 0 ≤ g ∧ g ≤ 99999
    · have e2 : spanV g 0 99999 = 0 := by unfold spanV; rw [if_pos c2]
      rw [e2, if_pos rfl]
      obtain ⟨H, hH⟩ : ∃ H : Nat, hoursN w0 w1 = (H : Int) := ⟨(hoursN w0 w1).toNat, by have := h.w; unfold hoursN; omega⟩
      by_cases c3 : hoursN w0 w1 > 1000
      · rw [if_pos c3]
        refine ⟨[], ?_, by simp, fun _ => rfl, fun q => by omega⟩
        simp only [hO, hoursOf_eq w0 w1 h.w, Option.bind_some]
        exact Ev.bind hc (Ev.pos rfl (Ev.neg (by simp; omega) (Ev.pos c3 (Ev.now _))))
      · rw [if_neg c3]
        obtain ⟨G, g1, g2, g3⟩ := Goal_loop a w0 w1 h g H hH (by omega) H 0 [] (by omega) rfl
        refine ⟨G, ?_, by omega, fun q => absurd rfl q, fun _ => ?_⟩
        · simp only [hO, hoursOf_eq w0 w1 h.w, Option.bind_some]
          refine Ev.bind hc (Ev.pos rfl (Ev.neg (by simp; omega) (Ev.neg (by omega) ?_)))
          rw [hH]
          exact g2
        · unfold pileref1_GoalOf.f
          have e : w0 + ((0 : Nat) : Int) * 3600000 = w0 := by omega
          rw [e] at g3
          exact g3
    · have e2 : spanV g 0 99999 = 1 := by unfold spanV; rw [if_neg c2]
      rw [e2, if_neg (by omega)]
      refine ⟨[], ?_, by simp, fun _ => rfl, fun q => by omega⟩
      simp only [hO, Option.bind_some]
      exact Ev.bind hc (Ev.pos rfl (Ev.pos (by simp; omega) (Ev.now _)))
  · have e1 : orV [timesV a w0 w1, spanV g 0 99999] = timesV a w0 w1 := by
      unfold orV
      rw [if_neg c]
    rw [e1, if_neg c]
    exact ⟨[], Ev.bind hc (Ev.neg c (Ev.now _)), by simp, fun _ => rfl, fun q => absurd q c⟩
theorem mx_comm (a b : Int) : mx a b = mx b a := by
  unfold mx
  split <;> split <;> omega
theorem mn_comm (a b : Int) : mn a b = mn b a := by
  unfold mn
  split <;> split <;> omega
theorem Forecast_same (a : List Int) (ha : a.length ≤ 1000) (w0 w1 t g : Int) (ht : -10000000 ≤ t ∧ t ≤ 10000000) (hg : -100000000 ≤ g ∧ g ≤ 100000000) :
    ∃ (n : Int) (b : Bool), Ev (fun k => rate_Forecast.f k a w0 w1 t g) (n, b, orV [timesV a w0 w1, spanV t 0 345686399999, spanV g 60000 86400000]) ∧
      (orV [timesV a w0 w1, spanV t 0 345686399999, spanV g 60000 86400000] ≠ 0 → n = 0 ∧ b = false) ∧ (orV [timesV a w0 w1, spanV t 0 345686399999, spanV g 60000 86400000] = 0 → Ev (fun k => pileref1_ForecastOf.f k a w0 w1 t g) (n, b)) := by
  have hc := CheckTimes_ev a (by omega) w0 w1
  have hf : Ev (fun k => rate_lastFault.f k a w0 w1 t g) (orV [timesV a w0 w1, spanV t 0 345686399999, spanV g 60000 86400000]) := by
    unfold rate_lastFault.f
    simp only [IsMoment_eq, isLong_eq, Option.bind_some]
    refine Ev.bind hc ?_
    by_cases c : timesV a w0 w1 = 0
    · rw [orV_z c]
      refine Ev.pos c ?_
      by_cases c2 : 0 ≤ t ∧ t ≤ 345686399999
      · have s2 : spanV t 0 345686399999 = 0 := if_pos c2
        rw [orV_z s2]
        refine Ev.pos (by simpa using c2) ?_
        by_cases c3 : 60000 ≤ g ∧ g ≤ 86400000
        · have s3 : spanV g 60000 86400000 = 0 := if_pos c3
          rw [orV_z s3]
          exact Ev.pos (by simpa using c3) (Ev.now _)
        · have s3 : spanV g 60000 86400000 = 1 := if_neg c3
          rw [s3]
          exact Ev.neg (by simpa using c3) (Ev.now _)
      · have s2 : spanV t 0 345686399999 = 1 := if_neg c2
        rw [s2]
        exact Ev.neg (by simpa using c2) (Ev.now _)
    · rw [orV_n c]
      exact Ev.neg c (Ev.now _)
  by_cases c : orV [timesV a w0 w1, spanV t 0 345686399999, spanV g 60000 86400000] = 0
  · have c0 : timesV a w0 w1 = 0 := by
      by_cases q : timesV a w0 w1 = 0
      · exact q
      · unfold orV at c
        rw [if_neg q] at c
        exact absurd c q
    have h := VT.of c0
    have hw := h.w
    have hn := h.n
    have x1 : wrap64 (t - g) = t - g := wrap_id (by omega) (by omega)
    have hb := before_ev a (by omega) h.s t
    have hi := in_ev a (by omega) h.s (mx w0 (t - g)) (mn w1 t)
    have hm1 := manyIn_ev a (by omega) w0 t
    rw [cntIn_all h] at hm1
    have hm2 := manyIn_ev a (by omega) (mx w0 (t - g)) (mn w1 t)
    by_cases c4 : mx w0 (t - g) ≥ mn w1 t
    · refine ⟨0, false, ?_, fun q => absurd c q, fun _ => ?_⟩
      · unfold rate_Forecast.f
        simp only [rate_last.f, x1, Option.bind_some]
        rw [c] at hf ⊢
        exact Ev.bind hf (Ev.pos rfl (Ev.pos c4 (Ev.now _)))
      · unfold pileref1_ForecastOf.f
        simp only [pileref1_before.f, x1, Option.bind_some, mx_comm (t - g) w0, mn_comm t w1]
        exact Ev.pos c4 (Ev.now _)
    · have hne : wrap64 (mn w1 t - mx w0 (t - g)) ≠ 0 := by
        have q1 : -1000000000000 ≤ mn w1 t ∧ mn w1 t ≤ 1000000000000 := by unfold mn; split <;> omega
        have q2 : -1000000000000 ≤ mx w0 (t - g) ∧ mx w0 (t - g) ≤ 1000000000000 := by unfold mx; split <;> omega
        rw [wrap_id (by omega) (by omega)]
        omega
      have hl : wrap64 (w1 - mn w1 t) = mx 0 (wrap64 (w1 - t)) := by
        rw [wrap_id (e := w1 - t) (by omega) (by omega)]
        unfold mn mx
        split <;> split <;> (try rw [wrap_id (by omega) (by omega)]) <;> first | rfl | omega
      refine ⟨wrap64 ((cntLt a t : Int) + (wrap64 (Int.tdiv (wrap64 ((mx 0 (wrap64 (w1 - t))) * (cntIn a (mx w0 (t - g)) (mn w1 t) : Int))) (wrap64 (mn w1 t - mx w0 (t - g)))))), true, ?_, fun q => absurd c q, fun _ => ?_⟩
      · unfold rate_Forecast.f
        simp only [rate_last.f, x1, Option.bind_some]
        rw [c] at hf ⊢
        exact Ev.bind hf (Ev.pos rfl (Ev.neg c4 (Ev.bind hb (Ev.bind hi (Ev.neg hne (Ev.now _))))))
      · unfold pileref1_ForecastOf.f
        simp only [pileref1_before.f, x1, Option.bind_some, mx_comm (t - g) w0, mn_comm t w1, hl]
        exact Ev.neg c4 (Ev.bind hm1 (Ev.bind hm2 (Ev.neg hne (Ev.now _))))
  · refine ⟨0, false, ?_, fun _ => ⟨rfl, rfl⟩, fun q => absurd q c⟩
    unfold rate_Forecast.f
    exact Ev.bind hf (Ev.neg c (Ev.now _))
theorem Ahead_any (a b : List Int) (ha : a.length ≤ 1000) (hb : b.length ≤ 1000) (w0 w1 : Int) :
    ∃ R : List (Int × Int), R.length ≤ 10000 ∧ Ev (fun k => rate_Ahead.f k a b w0 w1) (R, orV [timesV a w0 w1, timesV b w0 w1]) ∧ (orV [timesV a w0 w1, timesV b w0 w1] ≠ 0 → R = []) ∧
      (orV [timesV a w0 w1, timesV b w0 w1] = 0 → Ev (fun k => pileref1_AheadOf.f k a b w0 w1) R) := by
  have ca := CheckTimes_ev a (by omega) w0 w1
  have cb := CheckTimes_ev b (by omega) w0 w1
  have r0 : rdE e_L [a, b] 0 = a := rfl
  have r1 : rdE e_L [a, b] 1 = b := rfl
  have w3 : wrap64 (0 + 1) = 1 := wrap_id (by omega) (by omega)
  by_cases c : timesV a w0 w1 = 0
  · have e1 : orV [timesV a w0 w1, timesV b w0 w1] = timesV b w0 w1 := by
      unfold orV
      rw [if_pos c]
      unfold orV
      split
      · rename_i q; rw [q]; rfl
      · rfl
    rw [e1]
    by_cases c2 : timesV b w0 w1 = 0
    · obtain ⟨R, h1, h2, h3⟩ := Ahead_same a b w0 w1 (VT.of c) (VT.of c2)
      rw [c2]
      exact ⟨R, h1, h2, fun q => absurd rfl q, fun _ => h3⟩
    · refine ⟨[], by simp, ?_, fun _ => rfl, fun q => absurd q c2⟩
      unfold rate_Ahead.f
      refine Ev.succ ?_
      simp only [rate_Ahead.l0, r0, w3]
      refine Ev.pos (by simp) (Ev.pos (by omega) (Ev.pos (by simp) (Ev.bind ca (Ev.pos c (Ev.succ ?_)))))
      simp only [rate_Ahead.l0, r1]
      exact Ev.pos (by simp) (Ev.pos (by omega) (Ev.pos (by simp) (Ev.bind cb (Ev.neg c2 (Ev.now _)))))
  · have e1 : orV [timesV a w0 w1, timesV b w0 w1] = timesV a w0 w1 := by
      unfold orV
      rw [if_neg c]
    rw [e1]
    refine ⟨[], by simp, ?_, fun _ => rfl, fun q => absurd q c⟩
    unfold rate_Ahead.f
    refine Ev.succ ?_
    simp only [rate_Ahead.l0, r0]
    exact Ev.pos (by simp) (Ev.pos (by omega) (Ev.pos (by simp) (Ev.bind ca (Ev.neg c (Ev.now _)))))
theorem GF_j25 (G : List Int) (hG : G.length ≤ 1000) (R : List (Int × Int)) (hR : R.length ≤ 10000) (e1 n e2 e3 : Int) (b : Bool) : Ev (fun k => pilelaw1_GoalsFollowed.j25 k G e1 n b e2 R e3 e1 e2 e3 G n b R) true := by
  refine Ev.succ ?_
  simp only [pilelaw1_GoalsFollowed.j25]
  exact Ev.pos trivial (Ev.bind (EqualI_self G (by omega)) (Ev.pos rfl (Ev.pos trivial (Ev.pos trivial (Ev.pos (by simp) (Ev.pos trivial (Ev.bind (EqualW_self R (by omega)) (Ev.pos rfl rated_ev))))))))
theorem GF_j6 (l : List Int) (hl : l.length ≤ 140737488351232) (a b : List Int) (ha : a.length ≤ 1000) (hb : b.length ≤ 1000) (ta tb : List Int) (w0 w1 s : Int) (h0 : 0 ≤ s) (h1 : s ≤ 4611686018427380000) :
    Ev (fun k => pilelaw1_GoalsFollowed.j6 k w0 w1 l s ta a tb b) true := by
  obtain ⟨g, e1, m1⟩ := Pick_spec l s [0, 5, 10, 1000, (-1), 100000] (by omega) (by omega) hl (by simp) (by simp)
  obtain ⟨t, e2, m2⟩ := Pick_spec l (s + 1) [0, 61000, 3600000, 10000000, (-1)] (by omega) (by omega) hl (by simp) (by simp)
  obtain ⟨lg, e3, m3⟩ := Pick_spec l (s + 1 + 1) [60000, 900000, 3600000, 0] (by omega) (by omega) hl (by simp) (by simp)
  simp only [List.mem_cons, List.not_mem_nil, or_false] at m1 m2 m3
  have ft := TimesFault_ev a (by omega) w0 w1
  have fb := TimesFault_ev b (by omega) w0 w1
  obtain ⟨G, g1, g2, g3, g4⟩ := Goal_same a ha w0 w1 g
  obtain ⟨n, is, f1, f2, f3⟩ := Forecast_same a ha w0 w1 t lg (by omega) (by omega)
  obtain ⟨R, r1, r2, r3, r4⟩ := Ahead_any a b ha hb w0 w1
  have j25 := GF_j25 G g2 R r1 (goalF a w0 w1 g) n (orV [timesV a w0 w1, spanV t 0 345686399999, spanV lg 60000 86400000]) (orV [timesV a w0 w1, timesV b w0 w1]) is
  have j23 : Ev (fun k => pilelaw1_GoalsFollowed.j23 k w0 w1 a b G (goalF a w0 w1 g) n is (orV [timesV a w0 w1, spanV t 0 345686399999, spanV lg 60000 86400000]) R (orV [timesV a w0 w1, timesV b w0 w1]) (goalF a w0 w1 g) (orV [timesV a w0 w1, spanV t 0 345686399999, spanV lg 60000 86400000]) (orV [timesV a w0 w1, timesV b w0 w1]) G n is) true := by
    refine Ev.succ ?_
    simp only [pilelaw1_GoalsFollowed.j23]
    by_cases c : orV [timesV a w0 w1, timesV b w0 w1] = 0
    · exact Ev.pos c (Ev.bind (r4 c) j25)
    · refine Ev.neg c ?_
      have := r3 c
      subst this
      exact j25
  have j21 : Ev (fun k => pilelaw1_GoalsFollowed.j21 k w0 w1 a b t lg G (goalF a w0 w1 g) n is (orV [timesV a w0 w1, spanV t 0 345686399999, spanV lg 60000 86400000]) R (orV [timesV a w0 w1, timesV b w0 w1]) (goalF a w0 w1 g) (orV [timesV a w0 w1, spanV t 0 345686399999, spanV lg 60000 86400000]) (orV [timesV a w0 w1, timesV b w0 w1]) G) true := by
    refine Ev.succ ?_
    simp only [pilelaw1_GoalsFollowed.j21]
    by_cases c : orV [timesV a w0 w1, spanV t 0 345686399999, spanV lg 60000 86400000] = 0
    · exact Ev.pos c (Ev.bind (f3 c) j23)
    · refine Ev.neg c ?_
      obtain ⟨q1, q2⟩ := f2 c
      subst q1 q2
      exact j23
  have j14 : Ev (fun k => pilelaw1_GoalsFollowed.j14 k w0 w1 a b g t lg (timesV a w0 w1) G (goalF a w0 w1 g) n is (orV [timesV a w0 w1, spanV t 0 345686399999, spanV lg 60000 86400000]) R (orV [timesV a w0 w1, timesV b w0 w1]) (goalF a w0 w1 g)) true := by
    refine Ev.succ ?_
    simp only [pilelaw1_GoalsFollowed.j14, MomentFault_eq, LongFault_eq, Option.bind_some]
    refine Ev.bind (Or_ev _ (by simp)) (Ev.bind fb (Ev.bind (Or_ev _ (by simp)) ?_))
    by_cases c : goalF a w0 w1 g = 0
    · exact Ev.pos c (Ev.bind (g4 c) j21)
    · refine Ev.neg c ?_
      have := g3 c
      subst this
      exact j21
  refine Ev.succ ?_
  simp only [pilelaw1_GoalsFollowed.j6, SpanFault_eq, Option.bind_some]
  refine Ev.bind e1 (Ev.bind e2 (Ev.bind e3 (Ev.bind ft (Ev.bind g1 (Ev.bind f1 (Ev.bind r2 (Ev.bind (Or_ev _ (by simp)) ?_)))))))
  by_cases c : orV [timesV a w0 w1, spanV g 0 99999] = 0
  · have c0 : timesV a w0 w1 = 0 := by
      by_cases q : timesV a w0 w1 = 0
      · exact q
      · unfold orV at c
        rw [if_neg q] at c
        exact absurd c q
    simp only [HoursFault_eq w0 w1 (VT.of c0).w, Option.bind_some]
    refine Ev.pos c ?_
    have e : (if hoursN w0 w1 > 1000 then (2 : Int) else 0) = goalF a w0 w1 g := by unfold goalF; rw [if_pos c]
    rw [e]
    exact j14
  · refine Ev.neg c ?_
    have e : orV [timesV a w0 w1, spanV g 0 99999] = goalF a w0 w1 g := by unfold goalF; rw [if_neg c]
    rw [e]
    exact j14
theorem GoalsFollowed (l : List Int) (hl : l.length ≤ 140737488351232) : ∃ k, pilelaw1_GoalsFollowed.f k l = some true := by
  obtain ⟨a, ta, w0, w1, s1, e1, q1, q2, q3, q4, q5⟩ := TimesOfT_spec l 0 (by omega) (by omega) hl
  obtain ⟨b, tb, x0, x1, s2, e2, p1, p2, p3, p4, p5⟩ := TimesOfT_spec l s1 (by omega) (by omega) hl
  obtain ⟨f, e3⟩ := Flip_spec l s2 10 (by omega) (by omega) (by omega) hl
  refine (Ev.bind e1 (Ev.bind e2 (Ev.bind e3 ?_))).ex
  cases f with
  | true => exact Ev.pos rfl (GF_j6 l hl a b (by omega) (by omega) ta tb w0 w1 (s2 + 1) (by omega) (by omega))
  | false =>
    obtain ⟨r, h1, h2⟩ := DelG_spec b tb (by omega) w0 w1
    exact Ev.neg (by simp) (Ev.bind h1 (GF_j6 l hl a r.1 (by omega) (by omega) ta r.2 w0 w1 (s2 + 1) (by omega) (by omega)))
end Go.EV.Pure
