/- The plain law: the Lean functions answer true for every list. -/
import Derived.Test.YtacgcamgfkjbiaaDoorXRestsAndWorkAddUp
import Derived.KernelRfl
set_option linter.unusedVariables false
set_option linter.unusedSimpArgs false
/-! Plain laws that all statements use: numbers that don't wrap, functions with fuel, loops over lists, the stream's draws. -/
namespace Go.EV.Pure
open Go Go.EV Go.RowKit
theorem wrap_id {e : Int} (h1 : -9223372036854775808 ≤ e) (h2 : e ≤ 9223372036854775807) : wrap64 e = e := by
  unfold wrap64
  omega
theorem mx_eq (a b : Int) : mx a b = if a < b then b else a := rfl
theorem rd_get (l : List Int) (i : Nat) (h : i < l.length) : rd l (i : Int) = l[i] := by
  simp [rd, List.getD, List.getElem?_eq_getElem h]
theorem rdE_get {α : Type} (E : Enc α) (l : List α) (i : Nat) (h : i < l.length) : rdE E l (i : Int) = l[i] := by
  simp [rdE, List.getD, List.getElem?_eq_getElem h]
theorem rd_mem (l : List Int) (i : Int) (h0 : 0 ≤ i) (h1 : i < l.length) : rd l i ∈ l := by
  have h : i.toNat < l.length := by omega
  have : rd l i = l[i.toNat] := by simp [rd, List.getD, List.getElem?_eq_getElem h]
  rw [this]
  exact List.getElem_mem h
theorem wrap_succ {i : Nat} (h : i ≤ 1000000000000000) : wrap64 ((i : Int) + 1) = ((i + 1 : Nat) : Int) := by rw [wrap_id (by omega) (by omega)]; omega

/-- From some fuel on the function answers v. -/
def Ev {α : Type} (f : Nat → Option α) (v : α) : Prop := ∃ K, ∀ k, K ≤ k → f k = some v
section
variable {α β : Type}
theorem Ev.now (v : α) : Ev (fun _ => some v) v := ⟨0, fun _ _ => rfl⟩
theorem Ev.of {f : Nat → Option α} {v : α} (h : ∀ k, f k = some v) : Ev f v := ⟨0, fun k _ => h k⟩
theorem Ev.from {f : Nat → Option α} {v : α} (n : Nat) (h : ∀ k, f (k + n) = some v) : Ev f v := ⟨n, fun k hk => by
  obtain ⟨m, rfl⟩ : ∃ m, k = m + n := ⟨k - n, by omega⟩
  exact h m⟩
theorem Ev.bind {f : Nat → Option α} {a : α} {g : Nat → α → Option β} {v : β} (h : Ev f a) (h2 : Ev (fun k => g k a) v) : Ev (fun k => (f k).bind (g k)) v := by
  obtain ⟨K, h⟩ := h
  obtain ⟨K2, h2⟩ := h2
  exact ⟨max K K2, fun k hk => by show (f k).bind (g k) = some v; rw [h k (by omega)]; exact h2 k (by omega)⟩
theorem Ev.step {g f : Nat → Option α} {v : α} (h : ∀ k, g (k + 1) = f k) (h2 : Ev f v) : Ev g v := by
  obtain ⟨K, h2⟩ := h2
  exact ⟨K + 1, fun k hk => by
    obtain ⟨m, rfl⟩ : ∃ m, k = m + 1 := ⟨k - 1, by omega⟩
    rw [h m]; exact h2 m (by omega)⟩
theorem Ev.succ {g : Nat → Option α} {v : α} (h : Ev (fun k => g (k + 1)) v) : Ev g v := Ev.step (fun _ => rfl) h
theorem Ev.ex {f : Nat → Option α} {v : α} (h : Ev f v) : ∃ k, f k = some v := let ⟨K, h⟩ := h; ⟨K, h K (Nat.le_refl _)⟩
theorem Ev.pos {p : Prop} [Decidable p] {f g : Nat → Option α} {v : α} (c : p) (h1 : Ev f v) : Ev (fun k => if p then f k else g k) v := by simp only [if_pos c]; exact h1
theorem Ev.neg {p : Prop} [Decidable p] {f g : Nat → Option α} {v : α} (c : ¬ p) (h1 : Ev g v) : Ev (fun k => if p then f k else g k) v := by simp only [if_neg c]; exact h1

/-- A loop over a list by its index: what holds of its state carries over each round, or the round is the last one. -/
theorem loop {σ ρ : Type} (l : List α) (F : Nat → Int → σ → Option ρ) (I : Nat → σ → Prop) (post : ρ → Prop)
    (hstep : ∀ (i : Nat) (s : σ), i < l.length → I i s → (∃ s', I (i + 1) s' ∧ ∀ v, Ev (fun k => F k ((i + 1 : Nat) : Int) s') v → Ev (fun k => F k (i : Int) s) v) ∨ ∃ v, post v ∧ Ev (fun k => F k (i : Int) s) v)
    (hend : ∀ s, I l.length s → ∃ v, post v ∧ Ev (fun k => F k (l.length : Int) s) v) :
    ∀ (i : Nat) (s : σ), i ≤ l.length → I i s → ∃ v, post v ∧ Ev (fun k => F k (i : Int) s) v := by
  intro i
  generalize hd : l.length - i = d
  induction d generalizing i with
  | zero =>
    intro s hi hI
    obtain rfl : i = l.length := by omega
    exact hend s hI
  | succ d ih =>
    intro s hi hI
    rcases hstep i s (by omega) hI with ⟨s', h1, h2⟩ | h
    · obtain ⟨v, h3, h4⟩ := ih (i + 1) (by omega) s' (by omega) h1
      exact ⟨v, h3, h2 v h4⟩
    · exact h
end
end Go.EV.Pure
namespace Go.EV.Pure
open Go Go.EV Go.RowKit
theorem Below_j (x : Int) : Ev (fun k => pilemake_Below.j6 k x) x := Ev.from 1 fun k => rfl
theorem Below_spec (x n : Int) (hn : n ≤ 9223372036854775807) : ∃ r, Ev (fun k => pilemake_Below.f k x n) r ∧ 0 ≤ r ∧ (1 ≤ n → r < n) ∧ (n < 1 → r = 0) := by
  unfold pilemake_Below.f
  by_cases h : n < 1
  · simp only [if_pos h]
    exact ⟨0, Ev.now _, by omega, by omega, fun _ => rfl⟩
  · simp only [if_neg h, if_neg (show ¬ n = 0 by omega)]
    have hm := Int.natAbs_tmod x n
    have hm2 := Nat.mod_lt x.natAbs (show n.natAbs > 0 by omega)
    have h1 : x.tmod n < n := by omega
    have h2 : -n < x.tmod n := by omega
    by_cases h3 : x.tmod n < 0
    · simp only [if_pos h3]
      refine ⟨_, Below_j _, ?_, ?_, ?_⟩ <;> rw [wrap_id (by omega) (by omega)] <;> omega
    · simp only [if_neg h3]
      exact ⟨_, Below_j _, by omega, by omega, by omega⟩
theorem Next_spec (l : List Int) (s n : Int) (h0 : 0 ≤ s) (h1 : s ≤ 4611686018427387904) (hn : n ≤ 9223372036854775807) (hl : l.length ≤ 140737488351232) :
    ∃ r, Ev (fun k => pilemake_Stream_Next.f k l s n) (r, l, s + 1) ∧ 0 ≤ r ∧ (1 ≤ n → r < n) := by
  unfold pilemake_Stream_Next.f
  have hs : wrap64 (s + 1) = s + 1 := wrap_id (by omega) (by omega)
  have hs2 : wrap64 (s + 1 - 1) = s := by rw [wrap_id (by omega) (by omega)]; omega
  simp only [hs, hs2]
  by_cases h : (l.length : Int) = 0
  · simp only [if_pos h]
    obtain ⟨r, hr, r0, r1, _⟩ := Below_spec (wrap64 ((s + 1) * 7919)) n hn
    exact ⟨r, Ev.bind hr (Ev.now _), r0, r1⟩
  · have e : Int.tmod s (l.length : Int) = s % (l.length : Int) := Int.tmod_eq_emod_of_nonneg h0
    have m0 : 0 ≤ s % (l.length : Int) := Int.emod_nonneg _ h
    have m1 : s % (l.length : Int) < (l.length : Int) := Int.emod_lt_of_pos _ (by omega)
    simp only [if_neg h, e, if_pos m0, if_pos m1]
    obtain ⟨a, ha, _⟩ := Below_spec (rd l (s % (l.length : Int))) 1073741824 (by omega)
    obtain ⟨r, hr, r0, r1, _⟩ := Below_spec (wrap64 (a + wrap64 (wrap64 (Int.tdiv s (l.length : Int)) * wrap64 (7919 + s % (l.length : Int))))) n hn
    exact ⟨r, Ev.bind ha (Ev.bind hr (Ev.now _)), r0, r1⟩
theorem Pick_spec (l : List Int) (s : Int) (m : List Int) (h0 : 0 ≤ s) (h1 : s ≤ 4611686018427387904) (hl : l.length ≤ 140737488351232) (hm : 1 ≤ m.length) (hm2 : m.length ≤ 1000) :
    ∃ r, Ev (fun k => pilemake_Stream_Pick.f k l s m) (r, l, s + 1) ∧ r ∈ m := by
  obtain ⟨r, hr, r0, r1⟩ := Next_spec l s (m.length : Int) h0 h1 (by omega) hl
  have r2 := r1 (by omega)
  exact ⟨rd m r, Ev.bind hr (Ev.pos r0 (Ev.pos r2 (Ev.now _))), rd_mem m r r0 r2⟩
theorem Range_spec (l : List Int) (s a b : Int) (h0 : 0 ≤ s) (h1 : s ≤ 4611686018427387904) (ha : -1099511627776 ≤ a) (hb : b ≤ 1099511627776) (hab : a ≤ b) (hl : l.length ≤ 140737488351232) :
    ∃ r, Ev (fun k => pilemake_Stream_Range.f k l s a b) (r, l, s + 1) ∧ a ≤ r ∧ r ≤ b := by
  obtain ⟨r, hr, r0, r1⟩ := Next_spec l s (b - a + 1) h0 h1 (by omega) hl
  have r2 := r1 (by omega)
  refine ⟨a + r, ?_, by omega, by omega⟩
  unfold pilemake_Stream_Range.f
  rw [wrap_id (e := b - a) (by omega) (by omega), wrap_id (e := b - a + 1) (by omega) (by omega)]
  refine Ev.neg (by omega) (Ev.bind hr ?_)
  simp only [wrap_id (e := a + r) (by omega) (by omega)]
  exact Ev.now _
theorem Flip_spec (l : List Int) (s n : Int) (h0 : 0 ≤ s) (h1 : s ≤ 4611686018427387904) (hn : n ≤ 9223372036854775807) (hl : l.length ≤ 140737488351232) :
    ∃ b, Ev (fun k => pilemake_Stream_Flip.f k l s n) (b, l, s + 1) := by
  obtain ⟨r, hr, _⟩ := Next_spec l s n h0 h1 hn hl
  exact ⟨decide (r = 0), Ev.bind hr (Ev.now _)⟩
end Go.EV.Pure
namespace Go.EV.Pure
open Go Go.EV Go.RowKit
/-- How many of some numbers are from a on, before b. -/
def cntIn (l : List Int) (a b : Int) : Nat := l.countP fun x => decide (a ≤ x ∧ x < b)
/-- How many are before a. -/
def cntLt (l : List Int) (a : Int) : Nat := l.countP fun x => decide (x < a)
theorem cntLt_le (l : List Int) (a : Int) : cntLt l a ≤ l.length := List.countP_le_length
theorem cnt_split (l : List Int) (a b : Int) : (a ≤ b → cntLt l b = cntLt l a + cntIn l a b) ∧ (b ≤ a → cntIn l a b = 0 ∧ cntLt l b ≤ cntLt l a) := by
  induction l with
  | nil => simp [cntLt, cntIn]
  | cons x l ih =>
    simp only [cntLt, cntIn, List.countP_cons, decide_eq_true_eq] at ih ⊢
    constructor
    · intro h
      have := ih.1 h
      repeat' split
      all_goals omega
    · intro h
      have := ih.2 h
      repeat' split
      all_goals omega
/-- What is wrong with times in a window: from a time on, behind one. -/
def scanV (w0 w1 : Int) : Option Int → List Int → Int
  | _, [] => 0
  | p, x :: l => if w0 ≤ x ∧ x < w1 then (if (∃ y, p = some y ∧ x < y) then 7 else scanV w0 w1 (some x) l) else 1
def prevV (l : List Int) (i : Nat) : Option Int := if i = 0 then none else l[i - 1]?
/-- What is wrong with times in a window. -/
def timesV (l : List Int) (w0 w1 : Int) : Int :=
  if 0 ≤ w0 ∧ w0 < w1 ∧ w1 ≤ 345686400000 then (if l.length > 2000 then 2 else scanV w0 w1 none l) else 1
theorem scan_ok (w0 w1 : Int) (l : List Int) : ∀ p, scanV w0 w1 p l = 0 → (∀ x ∈ l, w0 ≤ x ∧ x < w1) ∧ l.Pairwise (· ≤ ·) ∧ ∀ y, p = some y → ∀ x ∈ l, y ≤ x := by
  induction l with
  | nil => intro p _; simp
  | cons x l ih =>
    intro p h
    simp only [scanV] at h
    by_cases c : w0 ≤ x ∧ x < w1
    · rw [if_pos c] at h
      by_cases d : ∃ y, p = some y ∧ x < y
      · rw [if_pos d] at h; omega
      · rw [if_neg d] at h
        obtain ⟨h1, h2, h3⟩ := ih _ h
        refine ⟨?_, ?_, ?_⟩
        · intro z hz
          rcases List.mem_cons.1 hz with rfl | hz
          · exact c
          · exact h1 z hz
        · exact List.pairwise_cons.2 ⟨fun z hz => h3 x rfl z hz, h2⟩
        · intro y hy z hz
          have hyx : y ≤ x := by
            by_cases e : x < y
            · exact absurd ⟨y, hy, e⟩ d
            · omega
          rcases List.mem_cons.1 hz with rfl | hz
          · exact hyx
          · have := h3 x rfl z hz; omega
    · rw [if_neg c] at h; omega
theorem times_ok {l : List Int} {w0 w1 : Int} (h : timesV l w0 w1 = 0) : (0 ≤ w0 ∧ w0 < w1 ∧ w1 ≤ 345686400000) ∧ l.length ≤ 2000 ∧ (∀ x ∈ l, w0 ≤ x ∧ x < w1) ∧ l.Pairwise (· ≤ ·) := by
  unfold timesV at h
  by_cases c : 0 ≤ w0 ∧ w0 < w1 ∧ w1 ≤ 345686400000
  · rw [if_pos c] at h
    by_cases d : l.length > 2000
    · rw [if_pos d] at h; omega
    · rw [if_neg d] at h
      obtain ⟨h1, h2, _⟩ := scan_ok _ _ _ _ h
      exact ⟨c, by omega, h1, h2⟩
  · rw [if_neg c] at h; omega
theorem Has_eq (a b x : Int) : kit_Has.f a b x = some (decide (a ≤ x ∧ x < b)) := by
  unfold kit_Has.f
  split <;> simp [*]
theorem inside_eq (a b x : Int) : pileref1_inside.f a b x = some (decide (a ≤ x ∧ x < b)) := by
  unfold pileref1_inside.f
  split <;> simp [*]
theorem IsTime_eq (a b : Int) : kit_IsTime.f a b = some (decide (0 ≤ a ∧ a < b ∧ b ≤ 345686400000)) := by
  unfold kit_IsTime.f
  split
  · split <;> simp [*] <;> omega
  · simp; omega
theorem timeFault_eq (a b : Int) : pileref1_timeFault.f a b = some (if 0 ≤ a ∧ a < b ∧ b ≤ 345686400000 then 0 else 1) := by
  unfold pileref1_timeFault.f
  repeat' split
  all_goals first | rfl | omega
theorem CheckTimes_loop (l : List Int) (hl : l.length ≤ 140737488351232) (w0 w1 : Int) (d : Nat) : ∀ i : Nat, i + d = l.length →
    Ev (fun k => rate_CheckTimes.l0 k l w0 w1 (i : Int)) (scanV w0 w1 (prevV l i) (l.drop i)) := by
  induction d with
  | zero =>
    intro i hi
    refine Ev.step (f := fun _ => some _) (fun k => ?_) (Ev.now _)
    simp only [rate_CheckTimes.l0]
    rw [if_neg (by omega), List.drop_of_length_le (by omega)]
    rfl
  | succ d ih =>
    intro i hi
    have hlt : i < l.length := by omega
    have hd : l.drop i = l[i] :: l.drop (i + 1) := List.drop_eq_getElem_cons hlt
    have hr := rd_get l i hlt
    have hw : wrap64 ((i : Int) + 1) = ((i + 1 : Nat) : Int) := by rw [wrap_id (by omega) (by omega)]; omega
    have hp : prevV l (i + 1) = some l[i] := by simp [prevV, List.getElem?_eq_getElem hlt]
    have ih' := ih (i + 1) (by omega)
    rw [hp] at ih'
    rw [hd]
    simp only [scanV]
    by_cases c : w0 ≤ l[i] ∧ l[i] < w1
    · by_cases z : i = 0
      · subst z
        rw [if_pos c, if_neg (by rintro ⟨y, hy, _⟩; simp [prevV] at hy)]
        refine Ev.step (fun k => ?_) ih'
        simp only [rate_CheckTimes.l0]
        rw [if_pos (by omega), if_pos (by omega), if_pos (by omega), hr, Has_eq]
        simp only [Option.bind_some, decide_eq_true_eq]
        rw [if_pos c, if_neg (by omega), hw]
      · have hlt2 : i - 1 < l.length := by omega
        have hr2 := rd_get l (i - 1) hlt2
        have hw2 : wrap64 ((i : Int) - 1) = ((i - 1 : Nat) : Int) := by rw [wrap_id (by omega) (by omega)]; omega
        have hp2 : prevV l i = some l[i - 1] := by simp [prevV, z, List.getElem?_eq_getElem hlt2]
        rw [if_pos c, hp2]
        by_cases o : l[i] < l[i - 1]
        · rw [if_pos ⟨_, rfl, o⟩]
          refine Ev.step (f := fun _ => some 7) (fun k => ?_) (Ev.now _)
          simp only [rate_CheckTimes.l0]
          rw [if_pos (by omega), if_pos (by omega), if_pos (by omega), hr, Has_eq]
          simp only [Option.bind_some, decide_eq_true_eq]
          rw [if_pos c, if_pos (by omega), hw2, if_pos (by omega), if_pos (by omega), hr2, if_pos o]
        · rw [if_neg (by rintro ⟨y, hy, h⟩; cases hy; exact o h)]
          refine Ev.step (fun k => ?_) ih'
          simp only [rate_CheckTimes.l0]
          rw [if_pos (by omega), if_pos (by omega), if_pos (by omega), hr, Has_eq]
          simp only [Option.bind_some, decide_eq_true_eq]
          rw [if_pos c, if_pos (by omega), hw2, if_pos (by omega), if_pos (by omega), hr2, if_neg o, hw]
    · rw [if_neg c]
      refine Ev.step (f := fun _ => some 1) (fun k => ?_) (Ev.now _)
      simp only [rate_CheckTimes.l0]
      rw [if_pos (by omega), if_pos (by omega), if_pos (by omega), hr, Has_eq]
      simp only [Option.bind_some, decide_eq_true_eq]
      rw [if_neg c]
theorem CheckTimes_ev (l : List Int) (hl : l.length ≤ 140737488351232) (w0 w1 : Int) : Ev (fun k => rate_CheckTimes.f k l w0 w1) (timesV l w0 w1) := by
  have h := CheckTimes_loop l hl w0 w1 l.length 0 (by omega)
  simp only [rate_CheckTimes.f, IsTime_eq, Option.bind_some, decide_eq_true_eq]
  unfold timesV
  by_cases c : 0 ≤ w0 ∧ w0 < w1 ∧ w1 ≤ 345686400000
  · simp only [if_pos c]
    by_cases d : l.length > 2000
    · have d' : (l.length : Int) > 2000 := by omega
      simp only [if_pos d, if_pos d']
      exact Ev.now _
    · have d' : ¬ (l.length : Int) > 2000 := by omega
      simp only [if_neg d, if_neg d']
      simpa [prevV] using h
  · simp only [if_neg c]
    exact Ev.now _
theorem TimesFault_loop (l : List Int) (hl : l.length ≤ 140737488351232) (w0 w1 : Int) (d : Nat) : ∀ i : Nat, i + d = l.length →
    Ev (fun k => pileref1_TimesFault.l0 k l w0 w1 (i : Int)) (scanV w0 w1 (prevV l i) (l.drop i)) := by
  induction d with
  | zero =>
    intro i hi
    refine Ev.step (f := fun _ => some _) (fun k => ?_) (Ev.now _)
    simp only [pileref1_TimesFault.l0]
    rw [if_neg (by omega), List.drop_of_length_le (by omega)]
    rfl
  | succ d ih =>
    intro i hi
    have hlt : i < l.length := by omega
    have hd : l.drop i = l[i] :: l.drop (i + 1) := List.drop_eq_getElem_cons hlt
    have hr := rd_get l i hlt
    have hw : wrap64 ((i : Int) + 1) = ((i + 1 : Nat) : Int) := by rw [wrap_id (by omega) (by omega)]; omega
    have hp : prevV l (i + 1) = some l[i] := by simp [prevV, List.getElem?_eq_getElem hlt]
    have ih' := ih (i + 1) (by omega)
    rw [hp] at ih'
    rw [hd]
    simp only [scanV]
    by_cases c : w0 ≤ l[i] ∧ l[i] < w1
    · by_cases z : i = 0
      · subst z
        rw [if_pos c, if_neg (by rintro ⟨y, hy, _⟩; simp [prevV] at hy)]
        refine Ev.step (fun k => ?_) ih'
        simp only [pileref1_TimesFault.l0]
        rw [if_pos (by omega), if_pos (by omega), if_pos (by omega), hr, inside_eq]
        simp only [Option.bind_some, decide_eq_true_eq]
        rw [if_pos c, if_neg (by omega), hw]
      · have hlt2 : i - 1 < l.length := by omega
        have hr2 := rd_get l (i - 1) hlt2
        have hw2 : wrap64 ((i : Int) - 1) = ((i - 1 : Nat) : Int) := by rw [wrap_id (by omega) (by omega)]; omega
        have hp2 : prevV l i = some l[i - 1] := by simp [prevV, z, List.getElem?_eq_getElem hlt2]
        rw [if_pos c, hp2]
        by_cases o : l[i] < l[i - 1]
        · rw [if_pos ⟨_, rfl, o⟩]
          refine Ev.step (f := fun _ => some 7) (fun k => ?_) (Ev.now _)
          simp only [pileref1_TimesFault.l0]
          rw [if_pos (by omega), if_pos (by omega), if_pos (by omega), hr, inside_eq]
          simp only [Option.bind_some, decide_eq_true_eq]
          rw [if_pos c, if_pos (by omega), hw2, if_pos (by omega), if_pos (by omega), hr2, if_pos o]
        · rw [if_neg (by rintro ⟨y, hy, h⟩; cases hy; exact o h)]
          refine Ev.step (fun k => ?_) ih'
          simp only [pileref1_TimesFault.l0]
          rw [if_pos (by omega), if_pos (by omega), if_pos (by omega), hr, inside_eq]
          simp only [Option.bind_some, decide_eq_true_eq]
          rw [if_pos c, if_pos (by omega), hw2, if_pos (by omega), if_pos (by omega), hr2, if_neg o, hw]
    · rw [if_neg c]
      refine Ev.step (f := fun _ => some 1) (fun k => ?_) (Ev.now _)
      simp only [pileref1_TimesFault.l0]
      rw [if_pos (by omega), if_pos (by omega), if_pos (by omega), hr, inside_eq]
      simp only [Option.bind_some, decide_eq_true_eq]
      rw [if_neg c]
theorem TimesFault_ev (l : List Int) (hl : l.length ≤ 140737488351232) (w0 w1 : Int) : Ev (fun k => pileref1_TimesFault.f k l w0 w1) (timesV l w0 w1) := by
  have h := TimesFault_loop l hl w0 w1 l.length 0 (by omega)
  simp only [pileref1_TimesFault.f, timeFault_eq, Option.bind_some]
  unfold timesV
  by_cases c : 0 ≤ w0 ∧ w0 < w1 ∧ w1 ≤ 345686400000
  · simp only [if_pos c, if_true]
    by_cases d : l.length > 2000
    · have d' : (l.length : Int) > 2000 := by omega
      simp only [if_pos d, if_pos d']
      exact Ev.now _
    · have d' : ¬ (l.length : Int) > 2000 := by omega
      simp only [if_neg d, if_neg d']
      simpa [prevV] using h
  · simp only [if_neg c, show ¬ ((1 : Int) = 0) by omega, if_false]
    exact Ev.now _
theorem countP_parts (l : List Int) (a : Int) (i : Nat) (hi : i ≤ l.length) (h1 : ∀ t (h : t < l.length), t < i → l[t] < a) (h2 : ∀ t (h : t < l.length), i ≤ t → a ≤ l[t]) : cntLt l a = i := by
  have e : l = l.take i ++ l.drop i := (List.take_append_drop i l).symm
  unfold cntLt
  rw [e, List.countP_append]
  have e1 : List.countP (fun x => decide (x < a)) (l.take i) = (l.take i).length := by
    rw [List.countP_eq_length]
    intro x hx
    obtain ⟨t, ht, rfl⟩ := List.getElem_of_mem hx
    rw [List.length_take] at ht
    simp only [List.getElem_take, decide_eq_true_eq]
    exact h1 t (by omega) (by omega)
  have e2 : List.countP (fun x => decide (x < a)) (l.drop i) = 0 := by
    rw [List.countP_eq_zero]
    intro x hx
    obtain ⟨t, ht, rfl⟩ := List.getElem_of_mem hx
    rw [List.length_drop] at ht
    simp only [List.getElem_drop, decide_eq_true_eq]
    have := h2 (i + t) (by omega) (by omega)
    omega
  rw [e1, e2, List.length_take]
  omega
theorem sorted_le {l : List Int} (hs : l.Pairwise (· ≤ ·)) (t m : Nat) (ht : t < l.length) (hm : m < l.length) (h : t ≤ m) : l[t] ≤ l[m] := by
  rcases Nat.lt_or_ge t m with h1 | h1
  · exact List.pairwise_iff_getElem.1 hs t m ht hm h1
  · have e : t = m := Nat.le_antisymm h h1
    subst e
    exact Int.le_refl _
theorem Less_eq (a b : Int) : cmp_Less_int.f a b = some (decide (a < b)) := by
  simp [cmp_Less_int.f, cmp_isNaN_int.f]
theorem u64_id (e : Int) (h0 : 0 ≤ e) (h1 : e < 18446744073709551616) : IntKind.u64.wrap e = e := by
  show e % 18446744073709551616 = e
  omega
theorem mid_eq (i j : Nat) (h : i + j ≤ 281474976710656) : wrap64 (Int.fdiv (IntKind.u64.wrap (wrap64 ((i : Int) + (j : Int)))) (2 ^ (min (Int.toNat 1) 64))) = (((i + j) / 2 : Nat) : Int) := by
  rw [wrap_id (e := (i : Int) + (j : Int)) (by omega) (by omega), u64_id _ (by omega) (by omega), show ((2 : Int) ^ (min (Int.toNat 1) 64)) = 2 from rfl, Int.fdiv_eq_ediv_of_nonneg _ (by omega), wrap_id (by omega) (by omega)]
  omega
theorem BinarySearch_loop (l : List Int) (hl : l.length ≤ 140737488351232) (a : Int) (hs : l.Pairwise (· ≤ ·)) (d : Nat) : ∀ i j : Nat, i ≤ j → j ≤ l.length → j - i ≤ d →
    (∀ t (h : t < l.length), t < i → l[t] < a) → (∀ t (h : t < l.length), j ≤ t → a ≤ l[t]) →
    ∃ b, Ev (fun k => slices_BinarySearch_int_int.l0 k l a (i : Int) (j : Int)) ((cntLt l a : Int), b) := by
  induction d with
  | zero =>
    intro i j h1 h2 h3 h4 h5
    have hij : i = j := by omega
    subst hij
    have hc := countP_parts l a i h2 h4 h5
    by_cases c : i < l.length
    · have hr := rd_get l i c
      by_cases e : l[i] = a
      · refine ⟨true, Ev.step (f := fun _ => some _) (fun k => ?_) (Ev.now _)⟩
        simp only [slices_BinarySearch_int_int.l0]
        rw [if_neg (by omega), if_pos (by omega), if_pos (by omega), if_pos (by omega), hr, if_pos e, hc]
      · refine ⟨false, Ev.step (f := fun _ => some _) (fun k => ?_) (Ev.now _)⟩
        simp only [slices_BinarySearch_int_int.l0, slices_isNaN_int.f]
        rw [if_neg (by omega), if_pos (by omega), if_pos (by omega), if_pos (by omega), hr, if_neg e, hc]
        simp
        omega
    · refine ⟨false, Ev.step (f := fun _ => some _) (fun k => ?_) (Ev.now _)⟩
      simp only [slices_BinarySearch_int_int.l0]
      rw [if_neg (by omega), if_neg (by omega), hc]
  | succ d ih =>
    intro i j h1 h2 h3 h4 h5
    by_cases hij : i = j
    · subst hij
      exact ih i i (by omega) h2 (by omega) h4 h5
    · obtain ⟨m, hmm⟩ : ∃ m, (i + j) / 2 = m := ⟨_, rfl⟩
      have hml : m < l.length := by omega
      have him : i ≤ m := by omega
      have hmj : m < j := by omega
      have hmid : wrap64 (Int.fdiv (IntKind.u64.wrap (wrap64 ((i : Int) + (j : Int)))) (2 ^ (min (Int.toNat 1) 64))) = (m : Int) := by
        rw [mid_eq i j (by omega), hmm]
      by_cases c : l[m] < a
      · obtain ⟨b, hb⟩ := ih (m + 1) j (by omega) h2 (by omega) (fun t ht h => Int.lt_of_le_of_lt (sorted_le hs t m ht hml (by omega)) c) h5
        refine ⟨b, Ev.step (fun k => ?_) hb⟩
        simp only [slices_BinarySearch_int_int.l0]
        rw [if_pos (by omega), hmid, if_pos (by omega), if_pos (by omega), rd_get l m hml, Less_eq]
        simp only [Option.bind_some, decide_eq_true_eq]
        rw [if_pos c, wrap_id (by omega) (by omega), show ((m : Int) + 1) = ((m + 1 : Nat) : Int) by omega]
      · obtain ⟨b, hb⟩ := ih i m him (by omega) (by omega) h4 (fun t ht h => Int.le_trans (Int.not_lt.1 c) (sorted_le hs m t hml ht h))
        refine ⟨b, Ev.step (fun k => ?_) hb⟩
        simp only [slices_BinarySearch_int_int.l0]
        rw [if_pos (by omega), hmid, if_pos (by omega), if_pos (by omega), rd_get l m hml, Less_eq]
        simp only [Option.bind_some, decide_eq_true_eq]
        rw [if_neg c]
theorem before_ev (l : List Int) (hl : l.length ≤ 140737488351232) (hs : l.Pairwise (· ≤ ·)) (a : Int) : Ev (fun k => rate_before.f k l a) (cntLt l a : Int) := by
  obtain ⟨b, hb⟩ := BinarySearch_loop l hl a hs l.length 0 l.length (by omega) (by omega) (by omega) (fun t _ h => by omega) (fun t h h' => by omega)
  exact Ev.bind hb (Ev.now _)
theorem in_ev (l : List Int) (hl : l.length ≤ 140737488351232) (hs : l.Pairwise (· ≤ ·)) (a b : Int) : Ev (fun k => rate_in.f k l a b) (cntIn l a b : Int) := by
  refine Ev.bind (before_ev l hl hs b) (Ev.bind (before_ev l hl hs a) ?_)
  have h := cnt_split l a b
  have h1 := cntLt_le l a
  have h2 := cntLt_le l b
  have e : mx 0 (wrap64 ((cntLt l b : Int) - (cntLt l a : Int))) = (cntIn l a b : Int) := by
    rw [wrap_id (by omega) (by omega), mx_eq]
    by_cases c : a ≤ b
    · have := h.1 c; split <;> omega
    · have := h.2 (by omega); split <;> omega
  rw [e]
  exact Ev.now _
end Go.EV.Pure
namespace Go.EV.Pure
open Go Go.EV Go.RowKit
/-! The lists of times that the stream makes. -/
def endsOK (w0 b : Int) : Prop := b = 3600000 ∨ b = 5000000 ∨ b = 9000000 ∨ b = 30000000 ∨ b = w0 ∨ b = 345686400001
theorem TimesOf_j (k : Nat) (w0 b : Int) (L l : List Int) (s : Int) : pilemake_Stream_TimesOf.j14 (k + 1) w0 b L l s = some (L, w0, b, l, s) := rfl
theorem TimesOf_j_ev (w0 b : Int) (L l : List Int) (s : Int) : Ev (fun k => pilemake_Stream_TimesOf.j14 k w0 b L l s) (L, w0, b, l, s) := Ev.from 1 fun k => TimesOf_j k w0 b L l s
theorem TimesOf_end (l : List Int) (hl : l.length ≤ 140737488351232) (x w0 b : Int) (hb : endsOK w0 b) (L : List Int) (hL : L.length ≤ 12) (s : Int) (h0 : 0 ≤ s) (h1 : s ≤ 4611686018427380000) :
    ∃ (L' : List Int) (b' s' : Int), (∀ f : Nat → Option _, (∀ k, f (k + 1) = ((pilemake_Stream_Flip.f k l s 15).bind fun r10 => (if r10.1 = true then ((pilemake_Stream_Pick.f k r10.2.1 r10.2.2 [b, w0, 345686400001]).bind fun r11 => ((pilemake_Stream_Pick.f k r11.2.1 r11.2.2 [0, r11.1, x]).bind fun r12 => (if L.length + [r12.1].length ≤ 549755813888 then pilemake_Stream_TimesOf.j14 k w0 r11.1 (L ++ [r12.1]) r12.2.1 r12.2.2 else Option.none))) else pilemake_Stream_TimesOf.j14 k w0 b L r10.2.1 r10.2.2))) → Ev f (L', w0, b', l, s')) ∧
      L'.length ≤ 13 ∧ endsOK w0 b' ∧ s ≤ s' ∧ s' ≤ s + 3 := by
  obtain ⟨f, e1⟩ := Flip_spec l s 15 (by omega) (by omega) (by omega) hl
  cases f with
  | true =>
    obtain ⟨r2, e2, m2⟩ := Pick_spec l (s + 1) [b, w0, 345686400001] (by omega) (by omega) hl (by simp) (by simp)
    obtain ⟨r3, e3, _⟩ := Pick_spec l (s + 1 + 1) [0, r2, x] (by omega) (by omega) hl (by simp) (by simp)
    refine ⟨L ++ [r3], r2, s + 1 + 1 + 1, fun f hf => Ev.step hf (Ev.bind e1 (Ev.pos rfl (Ev.bind e2 (Ev.bind e3 (Ev.pos (by simp; omega) (TimesOf_j_ev _ _ _ _ _)))))), by simp; omega, ?_, by omega, by omega⟩
    simp only [List.mem_cons, List.not_mem_nil, or_false] at m2
    unfold endsOK at hb ⊢
    omega
  | false =>
    exact ⟨L, b, s + 1, fun f hf => Ev.step hf (Ev.bind e1 (Ev.neg Bool.false_ne_true (TimesOf_j_ev _ _ _ _ _))), by omega, hb, by omega, by omega⟩
theorem TimesOf_l1 (l : List Int) (hl : l.length ≤ 140737488351232) (x w0 b : Int) (hb : endsOK w0 b) (s : Int) (h0 : 0 ≤ s) (h1 : s ≤ 4611686018427380000) (n : Nat) : ∀ L : List Int, L.length = n → n ≤ 12 →
    ∃ (L' : List Int) (b' s' : Int), Ev (fun k => pilemake_Stream_TimesOf.l1 k x w0 b l s L) (L', w0, b', l, s') ∧ L'.length ≤ 13 ∧ endsOK w0 b' ∧ s ≤ s' ∧ s' ≤ s + 3 := by
  induction n with
  | zero =>
    intro L hL _
    obtain ⟨L', b', s', h, q⟩ := TimesOf_end l hl x w0 b hb L (by omega) s h0 h1
    refine ⟨L', b', s', h _ (fun k => ?_), q⟩
    simp only [pilemake_Stream_TimesOf.l1]
    rw [if_neg (by omega)]
  | succ n ih =>
    intro L hL hn
    have hw : wrap64 ((L.length : Int) - 1) = (n : Int) := by rw [wrap_id (by omega) (by omega)]; omega
    by_cases c : rd L (n : Int) ≥ b
    · obtain ⟨L', b', s', h, q⟩ := ih (L.take n) (by simp; omega) (by omega)
      refine ⟨L', b', s', Ev.step (fun k => ?_) h, q⟩
      simp only [pilemake_Stream_TimesOf.l1, hw]
      rw [if_pos (by omega), if_pos (by omega), if_pos (by omega), if_pos c, if_pos (by omega), if_pos (by omega), Int.toNat_natCast]
    · obtain ⟨L', b', s', h, q⟩ := TimesOf_end l hl x w0 b hb L (by omega) s h0 h1
      refine ⟨L', b', s', h _ (fun k => ?_), q⟩
      simp only [pilemake_Stream_TimesOf.l1, hw]
      rw [if_pos (by omega), if_pos (by omega), if_pos (by omega), if_neg c]
theorem TimesOf_l0 (l : List Int) (hl : l.length ≤ 140737488351232) (m w0 b : Int) (hm : 0 ≤ m ∧ m ≤ 12) (hb : endsOK w0 b) (d : Nat) : ∀ (i : Int) (L : List Int) (x s : Int), 0 ≤ i → i + d = m → L.length ≤ i → 0 ≤ s → s + d ≤ 4611686018427380000 →
    ∃ (L' : List Int) (b' s' : Int), Ev (fun k => pilemake_Stream_TimesOf.l0 k x m i w0 b L l s) (L', w0, b', l, s') ∧ L'.length ≤ 13 ∧ endsOK w0 b' ∧ s ≤ s' ∧ s' ≤ s + d + 3 := by
  induction d with
  | zero =>
    intro i L x s hi hd hL h0 h1
    obtain ⟨L', b', s', h, q1, q2, q3, q4⟩ := TimesOf_l1 l hl x w0 b hb s h0 (by omega) L.length L rfl (by omega)
    refine ⟨L', b', s', Ev.step (fun k => ?_) h, q1, q2, by omega, by omega⟩
    simp only [pilemake_Stream_TimesOf.l0]
    rw [if_neg (by omega)]
  | succ d ih =>
    intro i L x s hi hd hL h0 h1
    obtain ⟨r, e, _⟩ := Pick_spec l s [0, 1, 1000, 60000, 300000, 1800000] (by omega) (by omega) hl (by simp) (by simp)
    obtain ⟨L', b', s', h, q1, q2, q3, q4⟩ := ih (i + 1) (L ++ [wrap64 (x + r)]) (wrap64 (x + r)) (s + 1) (by omega) (by omega) (by simp; omega) (by omega) (by omega)
    have hw : wrap64 (i + 1) = i + 1 := wrap_id (by omega) (by omega)
    refine ⟨L', b', s', Ev.succ ?_, q1, q2, by omega, by omega⟩
    simp only [pilemake_Stream_TimesOf.l0, hw]
    exact Ev.pos (by omega) (Ev.bind e (Ev.pos (show L.length + 1 ≤ 549755813888 by omega) h))
theorem TimesOf_spec (l : List Int) (s : Int) (h0 : 0 ≤ s) (h1 : s ≤ 4611686018427370000) (hl : l.length ≤ 140737488351232) :
    ∃ (L : List Int) (a b s' : Int), Ev (fun k => pilemake_Stream_TimesOf.f k l s) (L, a, b, l, s') ∧ L.length ≤ 13 ∧ (a = 0 ∨ a = 1000) ∧ endsOK a b ∧ s ≤ s' ∧ s' ≤ s + 20 := by
  obtain ⟨r1, e1, m1⟩ := Pick_spec l s [0, 1000] (by omega) (by omega) hl (by simp) (by simp)
  obtain ⟨r2, e2, m2⟩ := Pick_spec l (s + 1) [3600000, 5000000, 9000000, 30000000] (by omega) (by omega) hl (by simp) (by simp)
  obtain ⟨r3, e3, r3a, r3b⟩ := Range_spec l (s + 1 + 1) 0 12 (by omega) (by omega) (by omega) (by omega) (by omega) hl
  simp only [List.mem_cons, List.not_mem_nil, or_false] at m1 m2
  obtain ⟨L', b', s', h, q1, q2, q3, q4⟩ := TimesOf_l0 l hl r3 r1 r2 ⟨r3a, r3b⟩ (by unfold endsOK; omega) r3.toNat 0 [] r1 (s + 1 + 1 + 1) (by omega) (by omega) (by simp) (by omega) (by omega)
  exact ⟨L', r1, b', s', Ev.bind e1 (Ev.bind e2 (Ev.bind e3 h)), q1, m1, q2, by omega, by omega⟩
/-- Times that are right. -/
theorem RightTimes_spec (l : List Int) (hl : l.length ≤ 140737488351232) (d : Nat) : ∀ (i s : Int), i + d = 6 → 0 ≤ s → s + 20 * d ≤ 4611686018427370000 →
    ∃ (L : List Int) (a b s' : Int), Ev (fun k => pilemake_Stream_RightTimes.l0 k i l s) (L, a, b, l, s') ∧ L.length ≤ 13 ∧ timesV L a b = 0 ∧ (a = 0 ∨ a = 1000) ∧ b ≤ 30000000 ∧ s ≤ s' ∧ s' ≤ s + 20 * d := by
  induction d with
  | zero =>
    intro i s hi h0 h1
    refine ⟨[], 0, 3600000, s, Ev.step (f := fun _ => some _) (fun k => ?_) (Ev.now _), by simp, by decide, .inl rfl, by omega, by omega, by omega⟩
    simp only [pilemake_Stream_RightTimes.l0]
    rw [if_neg (by omega)]
  | succ d ih =>
    intro i s hi h0 h1
    obtain ⟨L, a, b, s1, e1, q1, q2, q3, q4, q5⟩ := TimesOf_spec l s h0 (by omega) hl
    have e2 := TimesFault_ev L (by omega) a b
    by_cases c : timesV L a b = 0
    · refine ⟨L, a, b, s1, Ev.succ ?_, q1, c, q2, ?_, by omega, by omega⟩
      · simp only [pilemake_Stream_RightTimes.l0]
        exact Ev.pos (by omega) (Ev.bind e1 (Ev.bind e2 (Ev.pos c (Ev.now _))))
      · have := (times_ok c).1
        unfold endsOK at q3
        omega
    · obtain ⟨L2, a2, b2, s2, e3, w1, w2, w3, w4, w5, w6⟩ := ih (i + 1) s1 (by omega) (by omega) (by omega)
      refine ⟨L2, a2, b2, s2, Ev.succ ?_, w1, w2, w3, w4, by omega, by omega⟩
      simp only [pilemake_Stream_RightTimes.l0, wrap_id (e := i + 1) (by omega) (by omega)]
      exact Ev.pos (by omega) (Ev.bind e1 (Ev.bind e2 (Ev.neg c e3)))
end Go.EV.Pure
namespace Go.EV.Pure
open Go Go.EV Go.RowKit
/-! Hours, counts and the best stretch of right times. -/
structure VT (l : List Int) (w0 w1 : Int) : Prop where
  w : 0 ≤ w0 ∧ w0 < w1 ∧ w1 ≤ 345686400000
  n : l.length ≤ 2000
  b : ∀ x ∈ l, w0 ≤ x ∧ x < w1
  s : l.Pairwise (· ≤ ·)
  t : timesV l w0 w1 = 0
theorem VT.of {l : List Int} {w0 w1 : Int} (h : timesV l w0 w1 = 0) : VT l w0 w1 := let ⟨a, b, c, d⟩ := times_ok h; ⟨a, b, c, d, h⟩
theorem VT.check {l : List Int} {w0 w1 : Int} (h : VT l w0 w1) : Ev (fun k => rate_CheckTimes.f k l w0 w1) 0 := by
  have := CheckTimes_ev l (by have := h.n; omega) w0 w1
  rwa [h.t] at this
theorem VT.in_ {l : List Int} {w0 w1 : Int} (h : VT l w0 w1) (a b : Int) : Ev (fun k => rate_in.f k l a b) (cntIn l a b : Int) := in_ev l (by have := h.n; omega) h.s a b
theorem Outside_eq (a lo hi : Int) : kit_Outside.f a lo hi = some (decide (a < lo ∨ hi < a)) := by
  unfold kit_Outside.f
  split <;> simp [*]
theorem IsWindow_eq (a b : Int) : kit_IsWindow.f a b = some (decide (0 ≤ a ∧ a ≤ b ∧ b ≤ 345686400000)) := by
  unfold kit_IsWindow.f
  rw [Outside_eq]
  simp only [Option.bind_some, decide_eq_true_eq]
  by_cases c : a < 0 ∨ b < a
  · have : ¬ (0 ≤ a ∧ a ≤ b ∧ b ≤ 345686400000) := by omega
    simp [c, this]
  · rw [if_neg c]
    have : (0 ≤ a ∧ a ≤ b ∧ b ≤ 345686400000) ↔ b ≤ 345686400000 := by omega
    simp [this]
theorem In_spec (l : List Int) (w0 w1 : Int) (h : VT l w0 w1) (a b : Int) (hab : 0 ≤ a ∧ a ≤ b ∧ b ≤ 345686400000) : Ev (fun k => rate_In.f k l w0 w1 a b) ((cntIn l a b : Int), 0) := by
  unfold rate_In.f
  simp only [IsWindow_eq, Option.bind_some]
  exact Ev.bind h.check (Ev.pos rfl (Ev.pos (by simpa using hab) (Ev.bind (h.in_ a b) (Ev.now _))))
end Go.EV.Pure
namespace Go.EV.Pure
open Go Go.EV Go.RowKit
/-! Rests of right times, and how long they are together. -/
def restsL (least : Int) : Int → List Int → List (Int × Int)
  | _, [] => []
  | f, x :: r => if x - f ≥ least then (f, x) :: restsL least (x + 1) r else restsL least (x + 1) r
theorem restsL_len (least : Int) : ∀ (r : List Int) (f : Int), (restsL least f r).length ≤ r.length
  | [], _ => Nat.le_refl _
  | x :: r, f => by
    have := restsL_len least r (x + 1)
    simp only [restsL]
    split <;> simp <;> omega
theorem rests_ok (least w1 : Int) : ∀ (r p : List Int) (f : Int), (p ++ r).Pairwise (· ≤ ·) → (∀ y ∈ p, y < f) → (∀ y ∈ r, f ≤ y + 1 ∧ y < w1) → f ≤ w1 + 1 →
    ∀ q ∈ restsL least f (r ++ [w1]), f ≤ q.1 ∧ q.2 ≤ w1 ∧ q.2 - q.1 ≥ least ∧ cntIn (p ++ r) q.1 q.2 = 0
  | [], p, f, hs, hp, hr, hw, q, hq => by
    simp only [List.nil_append, restsL] at hq
    split at hq
    · rename_i c
      have hq : q = (f, w1) := by simpa using hq
      subst hq
      refine ⟨Int.le_refl _, Int.le_refl _, c, ?_⟩
      unfold cntIn
      rw [List.countP_eq_zero]
      intro y hy
      have := hp y (by simpa using hy)
      simp only [decide_eq_true_eq]
      omega
    · cases hq
  | x :: r, p, f, hs, hp, hr, hw, q, hq => by
    have hx := hr x (by simp)
    have hsp := List.pairwise_append.1 hs
    have hxr := (List.pairwise_cons.1 hsp.2.1).1
    have rest := rests_ok least w1 r (p ++ [x]) (x + 1) (by simpa using hs) (fun y hy => by
      rcases List.mem_append.1 hy with hy | hy
      · have := hsp.2.2 y hy x (by simp); omega
      · have : y = x := by simpa using hy
        omega) (fun y hy => ⟨by have := hxr y hy; omega, (hr y (by simp [hy])).2⟩) (by omega)
    simp only [List.cons_append, restsL] at hq
    have fin : q ∈ restsL least (x + 1) (r ++ [w1]) → f ≤ q.1 ∧ q.2 ≤ w1 ∧ q.2 - q.1 ≥ least ∧ cntIn (p ++ x :: r) q.1 q.2 = 0 := fun hq => by
      obtain ⟨h1, h2, h3, h4⟩ := rest q hq
      exact ⟨by omega, h2, h3, by simpa using h4⟩
    split at hq
    · rename_i c
      rcases List.mem_cons.1 hq with rfl | hq
      · refine ⟨Int.le_refl _, by simp only; omega, c, ?_⟩
        unfold cntIn
        rw [List.countP_eq_zero]
        intro y hy
        simp only [decide_eq_true_eq]
        rcases List.mem_append.1 hy with hy | hy
        · have := hp y hy; omega
        · rcases List.mem_cons.1 hy with rfl | hy
          · omega
          · have := hxr y hy; omega
      · exact fin hq
    · exact fin hq
def sumD (l : List (Int × Int)) : Int := (l.map fun q => q.2 - q.1).sum
theorem sumD_take (l : List (Int × Int)) (h : ∀ q ∈ l, 0 ≤ q.2 - q.1 ∧ q.2 - q.1 ≤ 345686400000) : ∀ i : Nat, 0 ≤ sumD (l.take i) ∧ sumD (l.take i) ≤ l.length * 345686400000 := by
  induction l with
  | nil => intro i; simp [sumD]
  | cons a l ih =>
    intro i
    have ha := h a (by simp)
    have ih := ih (fun q hq => h q (by simp [hq]))
    cases i with
    | zero => simp [sumD]; omega
    | succ i =>
      have := ih i
      simp only [sumD, List.take_succ_cons, List.map_cons, List.sum_cons, List.length_cons] at this ⊢
      omega
theorem sumD_succ (l : List (Int × Int)) (i : Nat) (hi : i < l.length) : sumD (l.take (i + 1)) = sumD (l.take i) + (l[i].2 - l[i].1) := by
  rw [List.take_succ_eq_append_getElem hi]
  simp only [sumD, List.map_append, List.sum_append, List.map_cons, List.map_nil, List.sum_cons, List.sum_nil, Int.add_zero]
theorem rests_spec (t : List Int) (w0 w1 : Int) (h : VT t w0 w1) (least : Int) : Ev (fun k => rate_rests.f k t w0 w1 least) (restsL least w0 (t ++ [w1])) := by
  have hw := h.w
  have hn := h.n
  have hb : ∀ x ∈ t ++ [w1], w0 ≤ x ∧ x ≤ w1 := fun x hx => by
    rcases List.mem_append.1 hx with hx | hx
    · have := h.b x hx; omega
    · have : x = w1 := by simpa using hx
      omega
  have hlen : (t ++ [w1]).length = t.length + 1 := by simp
  generalize ho : t ++ [w1] = o at hb hlen
  obtain ⟨v, rfl, hv⟩ := loop o (fun k i (s : Int × List (Int × Int)) => rate_rests.l0 k least s.1 (o.length : Int) i s.2 o)
    (fun i s => s.2 ++ restsL least s.1 (o.drop i) = restsL least w0 o ∧ s.2.length ≤ i ∧ w0 ≤ s.1 ∧ s.1 ≤ w1 + 1) (fun v => v = restsL least w0 o)
    (fun i s hi ⟨i1, i2, i3, i4⟩ => .inl (by
      have hx := hb o[i] (List.getElem_mem hi)
      have hd : o.drop i = o[i] :: o.drop (i + 1) := List.drop_eq_getElem_cons hi
      have jstep : ∀ (acc : List (Int × Int)) v, Ev (fun k => rate_rests.l0 k least (o[i] + 1) (o.length : Int) ((i + 1 : Nat) : Int) acc o) v → Ev (fun k => rate_rests.j8 k least (o.length : Int) (i : Int) o acc) v := fun acc v hv =>
        Ev.step (fun k => by simp only [rate_rests.j8]; rw [rd_get o i hi, wrap_succ (by omega), wrap_id (e := o[i] + 1) (by omega) (by omega)]) hv
      by_cases c : o[i] - s.1 ≥ least
      · refine ⟨(o[i] + 1, s.2 ++ [(s.1, o[i])]), ⟨?_, by simp; omega, by simp only; omega, by simp only; omega⟩, fun v hv => Ev.succ ?_⟩
        · rw [← i1, hd]
          simp only [restsL, if_pos c, List.append_assoc, List.singleton_append]
        · simp only [rate_rests.l0, rd_get o i hi, wrap_id (e := o[i] - s.1) (by omega) (by omega)]
          exact Ev.pos (by omega) (Ev.pos (by omega) (Ev.pos (by omega) (Ev.pos c (Ev.pos (by simp; omega) (jstep _ v hv)))))
      · refine ⟨(o[i] + 1, s.2), ⟨?_, by simp only; omega, by simp only; omega, by simp only; omega⟩, fun v hv => Ev.succ ?_⟩
        · rw [← i1, hd]
          simp only [restsL, if_neg c]
        · simp only [rate_rests.l0, rd_get o i hi, wrap_id (e := o[i] - s.1) (by omega) (by omega)]
          exact Ev.pos (by omega) (Ev.pos (by omega) (Ev.pos (by omega) (Ev.neg c (jstep _ v hv))))))
    (fun s ⟨i1, i2, i3, i4⟩ => ⟨s.2, by rw [← i1, List.drop_length]; simp [restsL], Ev.step (f := fun _ => some _) (fun k => by simp only [rate_rests.l0]; rw [if_neg (by omega)]) (Ev.now _)⟩)
    0 (w0, []) (by omega) ⟨by simp, by simp, by omega, by simp only; omega⟩
  have e1 : slices_Clone_int_int.f t = some t := by
    unfold slices_Clone_int_int.f
    rw [if_pos (by simp; omega)]
    rfl
  unfold rate_rests.f
  simp only [e1, Option.bind_some, ho, ← hlen]
  exact Ev.pos (by omega) hv
theorem longOf_spec (l : List (Int × Int)) (hn : l.length ≤ 2001) (h : ∀ q ∈ l, 0 ≤ q.2 - q.1 ∧ q.2 - q.1 ≤ 345686400000) : Ev (fun k => rate_longOf.f k l) (sumD l) := by
  obtain ⟨v, rfl, hv⟩ := loop l (fun k i (a : Int) => rate_longOf.l0 k l a i) (fun i a => a = sumD (l.take i)) (fun v => v = sumD l)
    (fun i a hi ha => .inl ⟨sumD (l.take (i + 1)), rfl, fun v hv => Ev.step (fun k => by
      have hq := h l[i] (List.getElem_mem hi)
      have b1 := sumD_take l h i
      have e := sumD_succ l i hi
      simp only [rate_longOf.l0]
      rw [if_pos (by omega), if_pos (by omega), if_pos (by omega), rdE_get e_II l i hi, wrap_id (e := l[i].2 - l[i].1) (by omega) (by omega), wrap_id (e := a + (l[i].2 - l[i].1)) (by omega) (by omega), wrap_succ (by omega), e, ha]) hv⟩)
    (fun a ha => ⟨a, by rw [ha, List.take_length], Ev.step (f := fun _ => some _) (fun k => by simp only [rate_longOf.l0]; rw [if_neg (by omega)]) (Ev.now _)⟩) 0 0 (by omega) (by simp [sumD])
  exact hv
theorem restFault_spec (t : List Int) (w0 w1 : Int) (h : VT t w0 w1) (least : Int) (hl : 1000 ≤ least ∧ least ≤ 86400000) : Ev (fun k => rate_restFault.f k t w0 w1 least) 0 := by
  unfold rate_restFault.f
  simp only [Outside_eq, Option.bind_some]
  exact Ev.bind h.check (Ev.pos rfl (Ev.neg (by simp; omega) (Ev.now _)))
end Go.EV.Pure
namespace Go.EV.Pure
open Go Go.EV Go.RowKit
set_option maxRecDepth 100000
theorem ready_ev : Ev (fun k => pilekeep1_ready.f k) true := Ev.from 300 fun k => (by kernel_rfl : pilekeep1_ready.f (k + 300) = some true)
theorem RestsAndWorkAddUp (l : List Int) (hl : l.length ≤ 140737488351232) : ∃ k, pilekeep1_RestsAndWorkAddUp.f k l = some true := by
  obtain ⟨t, w0, w1, s, e1, q1, q2, q3, q4, q5, q6⟩ := RightTimes_spec l hl 6 0 0 (by omega) (by omega) (by omega)
  have h := VT.of q2
  have hw := h.w
  have hn := h.n
  obtain ⟨least, e2, m2⟩ := Pick_spec l s [1000, 60000, 600000] (by omega) (by omega) hl (by simp) (by simp)
  have hle : 1000 ≤ least ∧ least ≤ 600000 := by
    simp only [List.mem_cons, List.not_mem_nil, or_false] at m2
    omega
  have hok := rests_ok least w1 t [] w0 (by simpa using h.s) (by simp) (fun y hy => by have := h.b y hy; omega) (by omega)
  have hlen := restsL_len least (t ++ [w1]) w0
  have e3 := rests_spec t w0 w1 h least
  have efault := restFault_spec t w0 w1 h least (by omega)
  generalize restsL least w0 (t ++ [w1]) = R at hok hlen e3
  have hR : R.length ≤ 2001 := by simp at hlen; omega
  have hq : ∀ q ∈ R, 0 ≤ q.2 - q.1 ∧ q.2 - q.1 ≤ 345686400000 := fun q hq => by have := hok q hq; omega
  have e4 := longOf_spec R hR hq
  have bR := sumD_take R hq R.length
  rw [List.take_length] at bR
  obtain ⟨v, rfl, hv⟩ := loop R (fun k i (a : Int) => pilekeep1_RestsAndWorkAddUp.l0 k t least a R (R.length : Int) i w0 w1) (fun i a => a = w1 - w0 - sumD R + sumD (R.take i)) (fun v => v = true)
    (fun i a hi ha => .inl ⟨w1 - w0 - sumD R + sumD (R.take (i + 1)), rfl, fun v hv => Ev.succ (by
      have hqi := hq R[i] (List.getElem_mem hi)
      obtain ⟨o1, o2, o3, o4⟩ := hok R[i] (List.getElem_mem hi)
      have b1 := sumD_take R hq i
      have e := sumD_succ R i hi
      have hin := In_spec t w0 w1 h R[i].1 R[i].2 (by omega)
      rw [show cntIn t R[i].1 R[i].2 = 0 by simpa using o4] at hin
      simp only [pilekeep1_RestsAndWorkAddUp.l0, rdE_get e_II R i hi, wrap_id (e := R[i].2 - R[i].1) (by omega) (by omega), wrap_id (e := a + (R[i].2 - R[i].1)) (by omega) (by omega), wrap_succ (show i ≤ 1000000000000000 by omega)]
      refine Ev.pos (by omega) (Ev.pos (by omega) (Ev.pos (by omega) (Ev.bind hin (Ev.pos rfl (Ev.pos (by simp) (Ev.neg (by omega) ?_))))))
      rw [show a + (R[i].2 - R[i].1) = w1 - w0 - sumD R + sumD (R.take (i + 1)) by omega]
      exact hv)⟩)
    (fun a ha => ⟨true, rfl, Ev.succ (by
      simp only [pilekeep1_RestsAndWorkAddUp.l0, wrap_id (e := w1 - w0) (by omega) (by omega)]
      rw [List.take_length] at ha
      exact Ev.neg (by omega) (Ev.pos (by omega) (Ev.bind ready_ev (Ev.now _))))⟩) 0 (w1 - w0 - sumD R) (by omega) (by simp [sumD])
  refine (Ev.bind (f := fun k => pilemake_Stream_RightTimes.l0 k 0 l 0) e1 (Ev.bind e2 (Ev.bind (a := (R, 0)) ?_ (Ev.bind (a := (w1 - w0 - sumD R, 0)) ?_ (Ev.pos rfl (Ev.pos rfl hv)))))).ex
  · exact Ev.bind efault (Ev.pos rfl (Ev.bind e3 (Ev.now _)))
  · refine Ev.bind efault (Ev.pos rfl (Ev.bind e3 (Ev.bind e4 ?_)))
    simp only [wrap_id (e := w1 - w0) (by omega) (by omega), wrap_id (e := w1 - w0 - sumD R) (by omega) (by omega)]
    exact Ev.now _
end Go.EV.Pure
