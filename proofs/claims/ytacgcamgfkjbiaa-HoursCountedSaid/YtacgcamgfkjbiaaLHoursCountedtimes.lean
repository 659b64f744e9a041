/- Plain laws of times and windows: the checks, counts of sorted times by a binary search and one by one, hours, the best stretch, the longest gap, fractions in lowest terms. -/
import Derived.Test.YtacgcamgfkjbiaaLHoursCountedbase
namespace Go.Proofs.Ytacgcamgfkjbiaa.PHoursCounted
open Go.RowKit Go.Proofs.YtacgcamgfkjbiaaW.PrintWords Go.Proofs.YtacgcamgfkjbiaaW.PrintLast
theorem rd_get (l : List Int) (i : Nat) (h : i < l.length) : rd l (i : Int) = l[i] := by
  simp [rd, List.getD, List.getElem?_eq_getElem h]
theorem wrap_nat (n : Nat) (h : n ≤ 1000000000000000) : wrap64 (n : Int) = n := wrap_id (by omega) (by omega)
theorem mx_eq (a b : Int) : mx a b = if a < b then b else a := rfl
theorem mn_eq (a b : Int) : mn a b = if b < a then b else a := rfl
/-- How many of some numbers are from a on, before b. -/
def cntIn (l : List Int) (a b : Int) : Nat := l.countP fun x => decide (a ≤ x ∧ x < b)
/-- How many are before a. -/
def cntLt (l : List Int) (a : Int) : Nat := l.countP fun x => decide (x < a)
theorem cntIn_le (l : List Int) (a b : Int) : cntIn l a b ≤ l.length := List.countP_le_length
theorem cntLt_le (l : List Int) (a : Int) : cntLt l a ≤ l.length := List.countP_le_length
theorem cnt_split (l : List Int) (a b : Int) : (a ≤ b → cntLt l b = cntLt l a + cntIn l a b) ∧ (b ≤ a → cntIn l a b = 0 ∧ cntLt l b ≤ cntLt l a) := by
  induction l with
  | nil => simp [cntLt, cntIn]
  | cons x l ih =>
    simp only [cntLt, cntIn, List.countP_cons, decide_eq_true_eq] at ih ⊢
    constructor
    · intro h
      have := ih.1 h
      repeat' split
      all_goals omega
    · intro h
      have := ih.2 h
      repeat' split
      all_goals omega
/-- What is wrong with times in a window: from a time on, behind one. -/
def scanV (w0 w1 : Int) : Option Int → List Int → Int
  | _, [] => 0
  | p, x :: l => if w0 ≤ x ∧ x < w1 then (if (∃ y, p = some y ∧ x < y) then 7 else scanV w0 w1 (some x) l) else 1
def prevV (l : List Int) (i : Nat) : Option Int := if i = 0 then none else l[i - 1]?
/-- What is wrong with times in a window. -/
def timesV (l : List Int) (w0 w1 : Int) : Int :=
  if 0 ≤ w0 ∧ w0 < w1 ∧ w1 ≤ 345686400000 then (if l.length > 2000 then 2 else scanV w0 w1 none l) else 1
theorem scan_ok (w0 w1 : Int) (l : List Int) : ∀ p, scanV w0 w1 p l = 0 → (∀ x ∈ l, w0 ≤ x ∧ x < w1) ∧ l.Pairwise (· ≤ ·) ∧ ∀ y, p = some y → ∀ x ∈ l, y ≤ x := by
  induction l with
  | nil => intro p _; simp
  | cons x l ih =>
    intro p h
    simp only [scanV] at h
    by_cases c : w0 ≤ x ∧ x < w1
    · rw [if_pos c] at h
      by_cases d : ∃ y, p = some y ∧ x < y
      · rw [if_pos d] at h; omega
      · rw [if_neg d] at h
        obtain ⟨h1, h2, h3⟩ := ih _ h
        refine ⟨?_, ?_, ?_⟩
        · intro z hz
          rcases List.mem_cons.1 hz with rfl | hz
          · exact c
          · exact h1 z hz
        · exact List.pairwise_cons.2 ⟨fun z hz => h3 x rfl z hz, h2⟩
        · intro y hy z hz
          have hyx : y ≤ x := by
            by_cases e : x < y
            · exact absurd ⟨y, hy, e⟩ d
            · omega
          rcases List.mem_cons.1 hz with rfl | hz
          · exact hyx
          · have := h3 x rfl z hz; omega
    · rw [if_neg c] at h; omega
theorem times_ok {l : List Int} {w0 w1 : Int} (h : timesV l w0 w1 = 0) : (0 ≤ w0 ∧ w0 < w1 ∧ w1 ≤ 345686400000) ∧ l.length ≤ 2000 ∧ (∀ x ∈ l, w0 ≤ x ∧ x < w1) ∧ l.Pairwise (· ≤ ·) := by
  unfold timesV at h
  by_cases c : 0 ≤ w0 ∧ w0 < w1 ∧ w1 ≤ 345686400000
  · rw [if_pos c] at h
    by_cases d : l.length > 2000
    · rw [if_pos d] at h; omega
    · rw [if_neg d] at h
      obtain ⟨h1, h2, _⟩ := scan_ok _ _ _ _ h
      exact ⟨c, by omega, h1, h2⟩
  · rw [if_neg c] at h; omega
theorem Has_eq (a b x : Int) : kit_Has.f a b x = some (decide (a ≤ x ∧ x < b)) := by
  unfold kit_Has.f
  split <;> simp [*]
theorem inside_eq (a b x : Int) : pileref1_inside.f a b x = some (decide (a ≤ x ∧ x < b)) := by
  unfold pileref1_inside.f
  split <;> simp [*]
theorem IsTime_eq (a b : Int) : kit_IsTime.f a b = some (decide (0 ≤ a ∧ a < b ∧ b ≤ 345686400000)) := by
  unfold kit_IsTime.f
  split
  · split <;> simp [*] <;> omega
  · simp; omega
theorem timeFault_ev (a b : Int) : Ev (fun k => pileref1_timeFault.f k a b) (if 0 ≤ a ∧ a < b ∧ b ≤ 345686400000 then 0 else 1) := by
  refine ⟨1, fun k hk => ?_⟩
  obtain ⟨k, rfl⟩ : ∃ m, k = m + 1 := ⟨k - 1, by omega⟩
  simp only [pileref1_timeFault.f, pileref1_timeFault.j0, decide_eq_true_eq, if_true]
  repeat' split
  all_goals first | rfl | omega
theorem CheckTimes_loop (l : List Int) (hl : l.length ≤ 140737488351232) (w0 w1 : Int) (d : Nat) : ∀ i : Nat, i + d = l.length →
    Ev (fun k => rate_CheckTimes.l0 k l l (l.length : Int) (i : Int) w0 w1) (scanV w0 w1 (prevV l i) (l.drop i)) := by
  induction d with
  | zero =>
    intro i hi
    refine Ev.step (f := fun _ => some _) (fun k => ?_) (Ev.now _)
    simp only [rate_CheckTimes.l0]
    rw [if_neg (by omega), List.drop_of_length_le (by omega)]
    rfl
  | succ d ih =>
    intro i hi
    have hlt : i < l.length := by omega
    have hd : l.drop i = l[i] :: l.drop (i + 1) := List.drop_eq_getElem_cons hlt
    have hr := rd_get l i hlt
    have hw : wrap64 ((i : Int) + 1) = ((i + 1 : Nat) : Int) := by rw [wrap_id (by omega) (by omega)]; omega
    have hp : prevV l (i + 1) = some l[i] := by simp [prevV, List.getElem?_eq_getElem hlt]
    have ih' := ih (i + 1) (by omega)
    rw [hp] at ih'
    rw [hd]
    simp only [scanV]
    by_cases c : w0 ≤ l[i] ∧ l[i] < w1
    · by_cases z : i = 0
      · subst z
        rw [if_pos c, if_neg (by rintro ⟨y, hy, _⟩; simp [prevV] at hy)]
        refine Ev.step (fun k => ?_) ih'
        simp only [rate_CheckTimes.l0]
        rw [if_pos (by omega), if_pos (by omega), if_pos (by omega), hr, Has_eq]
        simp only [Option.bind_some, decide_eq_true_eq]
        rw [if_pos c, if_neg (by omega), hw]
      · have hlt2 : i - 1 < l.length := by omega
        have hr2 := rd_get l (i - 1) hlt2
        have hw2 : wrap64 ((i : Int) - 1) = ((i - 1 : Nat) : Int) := by rw [wrap_id (by omega) (by omega)]; omega
        have hp2 : prevV l i = some l[i - 1] := by simp [prevV, z, List.getElem?_eq_getElem hlt2]
        rw [if_pos c, hp2]
        by_cases o : l[i] < l[i - 1]
        · rw [if_pos ⟨_, rfl, o⟩]
          refine Ev.step (f := fun _ => some 7) (fun k => ?_) (Ev.now _)
          simp only [rate_CheckTimes.l0]
          rw [if_pos (by omega), if_pos (by omega), if_pos (by omega), hr, Has_eq]
          simp only [Option.bind_some, decide_eq_true_eq]
          rw [if_pos c, if_pos (by omega), hw2, if_pos (by omega), if_pos (by omega), hr2, if_pos o]
        · rw [if_neg (by rintro ⟨y, hy, h⟩; cases hy; exact o h)]
          refine Ev.step (fun k => ?_) ih'
          simp only [rate_CheckTimes.l0]
          rw [if_pos (by omega), if_pos (by omega), if_pos (by omega), hr, Has_eq]
          simp only [Option.bind_some, decide_eq_true_eq]
          rw [if_pos c, if_pos (by omega), hw2, if_pos (by omega), if_pos (by omega), hr2, if_neg o, hw]
    · rw [if_neg c]
      refine Ev.step (f := fun _ => some 1) (fun k => ?_) (Ev.now _)
      simp only [rate_CheckTimes.l0]
      rw [if_pos (by omega), if_pos (by omega), if_pos (by omega), hr, Has_eq]
      simp only [Option.bind_some, decide_eq_true_eq]
      rw [if_neg c]
theorem CheckTimes_ev (l : List Int) (hl : l.length ≤ 140737488351232) (w0 w1 : Int) : Ev (fun k => rate_CheckTimes.f k l w0 w1) (timesV l w0 w1) := by
  have h := CheckTimes_loop l hl w0 w1 l.length 0 (by omega)
  simp only [rate_CheckTimes.f, IsTime_eq, Option.bind_some, decide_eq_true_eq]
  unfold timesV
  by_cases c : 0 ≤ w0 ∧ w0 < w1 ∧ w1 ≤ 345686400000
  · simp only [if_pos c]
    by_cases d : l.length > 2000
    · have d' : (l.length : Int) > 2000 := by omega
      simp only [if_pos d, if_pos d']
      exact Ev.now _
    · have d' : ¬ (l.length : Int) > 2000 := by omega
      simp only [if_neg d, if_neg d']
      simpa [prevV] using h
  · simp only [if_neg c]
    exact Ev.now _
theorem TimesFault_loop (l : List Int) (hl : l.length ≤ 140737488351232) (w0 w1 : Int) (d : Nat) : ∀ i : Nat, i + d = l.length →
    Ev (fun k => pileref1_TimesFault.l0 k l l (l.length : Int) (i : Int) w0 w1) (scanV w0 w1 (prevV l i) (l.drop i)) := by
  induction d with
  | zero =>
    intro i hi
    refine Ev.step (f := fun _ => some _) (fun k => ?_) (Ev.now _)
    simp only [pileref1_TimesFault.l0]
    rw [if_neg (by omega), List.drop_of_length_le (by omega)]
    rfl
  | succ d ih =>
    intro i hi
    have hlt : i < l.length := by omega
    have hd : l.drop i = l[i] :: l.drop (i + 1) := List.drop_eq_getElem_cons hlt
    have hr := rd_get l i hlt
    have hw : wrap64 ((i : Int) + 1) = ((i + 1 : Nat) : Int) := by rw [wrap_id (by omega) (by omega)]; omega
    have hp : prevV l (i + 1) = some l[i] := by simp [prevV, List.getElem?_eq_getElem hlt]
    have ih' := ih (i + 1) (by omega)
    rw [hp] at ih'
    rw [hd]
    simp only [scanV]
    by_cases c : w0 ≤ l[i] ∧ l[i] < w1
    · by_cases z : i = 0
      · subst z
        rw [if_pos c, if_neg (by rintro ⟨y, hy, _⟩; simp [prevV] at hy)]
        refine Ev.step (fun k => ?_) ih'
        simp only [pileref1_TimesFault.l0]
        rw [if_pos (by omega), if_pos (by omega), if_pos (by omega), hr, inside_eq]
        simp only [Option.bind_some, decide_eq_true_eq]
        rw [if_pos c, if_neg (by omega), hw]
      · have hlt2 : i - 1 < l.length := by omega
        have hr2 := rd_get l (i - 1) hlt2
        have hw2 : wrap64 ((i : Int) - 1) = ((i - 1 : Nat) : Int) := by rw [wrap_id (by omega) (by omega)]; omega
        have hp2 : prevV l i = some l[i - 1] := by simp [prevV, z, List.getElem?_eq_getElem hlt2]
        rw [if_pos c, hp2]
        by_cases o : l[i] < l[i - 1]
        · rw [if_pos ⟨_, rfl, o⟩]
          refine Ev.step (f := fun _ => some 7) (fun k => ?_) (Ev.now _)
          simp only [pileref1_TimesFault.l0]
          rw [if_pos (by omega), if_pos (by omega), if_pos (by omega), hr, inside_eq]
          simp only [Option.bind_some, decide_eq_true_eq]
          rw [if_pos c, if_pos (by omega), hw2, if_pos (by omega), if_pos (by omega), hr2, if_pos o]
        · rw [if_neg (by rintro ⟨y, hy, h⟩; cases hy; exact o h)]
          refine Ev.step (fun k => ?_) ih'
          simp only [pileref1_TimesFault.l0]
          rw [if_pos (by omega), if_pos (by omega), if_pos (by omega), hr, inside_eq]
          simp only [Option.bind_some, decide_eq_true_eq]
          rw [if_pos c, if_pos (by omega), hw2, if_pos (by omega), if_pos (by omega), hr2, if_neg o, hw]
    · rw [if_neg c]
      refine Ev.step (f := fun _ => some 1) (fun k => ?_) (Ev.now _)
      simp only [pileref1_TimesFault.l0]
      rw [if_pos (by omega), if_pos (by omega), if_pos (by omega), hr, inside_eq]
      simp only [Option.bind_some, decide_eq_true_eq]
      rw [if_neg c]
theorem TimesFault_ev (l : List Int) (hl : l.length ≤ 140737488351232) (w0 w1 : Int) : Ev (fun k => pileref1_TimesFault.f k l w0 w1) (timesV l w0 w1) := by
  have h := TimesFault_loop l hl w0 w1 l.length 0 (by omega)
  unfold timesV
  by_cases c : 0 ≤ w0 ∧ w0 < w1 ∧ w1 ≤ 345686400000
  · have h0 := timeFault_ev w0 w1
    rw [if_pos c] at h0
    rw [if_pos c]
    refine Ev.bind h0 ?_
    simp only [if_true]
    by_cases d : l.length > 2000
    · have d' : (l.length : Int) > 2000 := by omega
      simp only [if_pos d, if_pos d']
      exact Ev.now _
    · have d' : ¬ (l.length : Int) > 2000 := by omega
      simp only [if_neg d, if_neg d']
      simpa [prevV] using h
  · have h0 := timeFault_ev w0 w1
    rw [if_neg c] at h0
    rw [if_neg c]
    refine Ev.bind h0 ?_
    simp only [show ¬ ((1 : Int) = 0) by omega, if_false]
    exact Ev.now _
theorem countP_parts (l : List Int) (a : Int) (i : Nat) (hi : i ≤ l.length) (h1 : ∀ t (h : t < l.length), t < i → l[t] < a) (h2 : ∀ t (h : t < l.length), i ≤ t → a ≤ l[t]) : cntLt l a = i := by
  have e : l = l.take i ++ l.drop i := (List.take_append_drop i l).symm
  unfold cntLt
  rw [e, List.countP_append]
  have e1 : List.countP (fun x => decide (x < a)) (l.take i) = (l.take i).length := by
    rw [List.countP_eq_length]
    intro x hx
    obtain ⟨t, ht, rfl⟩ := List.getElem_of_mem hx
    rw [List.length_take] at ht
    simp only [List.getElem_take, decide_eq_true_eq]
    exact h1 t (by omega) (by omega)
  have e2 : List.countP (fun x => decide (x < a)) (l.drop i) = 0 := by
    rw [List.countP_eq_zero]
    intro x hx
    obtain ⟨t, ht, rfl⟩ := List.getElem_of_mem hx
    rw [List.length_drop] at ht
    simp only [List.getElem_drop, decide_eq_true_eq]
    have := h2 (i + t) (by omega) (by omega)
    omega
  rw [e1, e2, List.length_take]
  omega
theorem sorted_le {l : List Int} (hs : l.Pairwise (· ≤ ·)) (t m : Nat) (ht : t < l.length) (hm : m < l.length) (h : t ≤ m) : l[t] ≤ l[m] := by
  rcases Nat.lt_or_ge t m with h1 | h1
  · exact List.pairwise_iff_getElem.1 hs t m ht hm h1
  · have e : t = m := Nat.le_antisymm h h1
    subst e
    exact Int.le_refl _
theorem Less_eq (a b : Int) : cmp_Less_int.f a b = some (decide (a < b)) := by
  simp [cmp_Less_int.f, cmp_isNaN_int.f]
theorem u64_id (e : Int) (h0 : 0 ≤ e) (h1 : e < 18446744073709551616) : IntKind.u64.wrap e = e := by
  show e % 18446744073709551616 = e
  omega
theorem mid_eq (i j : Nat) (h : i + j ≤ 281474976710656) : (wrap64 ((IntKind.u64.wrap (wrap64 ((i : Int) + (j : Int)))) / 2)) = (((i + j) / 2 : Nat) : Int) := by
  rw [wrap_id (e := (i : Int) + (j : Int)) (by omega) (by omega), u64_id _ (by omega) (by omega), wrap_id (by omega) (by omega)]
  omega
theorem BinarySearch_loop (l : List Int) (hl : l.length ≤ 140737488351232) (a : Int) (hs : l.Pairwise (· ≤ ·)) (d : Nat) : ∀ i j : Nat, i ≤ j → j ≤ l.length → j - i ≤ d →
    (∀ t (h : t < l.length), t < i → l[t] < a) → (∀ t (h : t < l.length), j ≤ t → a ≤ l[t]) →
    ∃ b, Ev (fun k => slices_BinarySearch_int_int.l0 k l a (l.length : Int) (i : Int) (j : Int)) ((cntLt l a : Int), b) := by
  induction d with
  | zero =>
    intro i j h1 h2 h3 h4 h5
    have hij : i = j := by omega
    subst hij
    have hc := countP_parts l a i h2 h4 h5
    by_cases c : i < l.length
    · have hr := rd_get l i c
      by_cases e : l[i] = a
      · refine ⟨true, Ev.step (f := fun _ => some _) (fun k => ?_) (Ev.now _)⟩
        simp only [slices_BinarySearch_int_int.l0]
        rw [if_neg (by omega), if_pos (by omega), if_pos (by omega), if_pos (by omega), hr, if_pos e, hc]
      · refine ⟨false, Ev.step (f := fun _ => some _) (fun k => ?_) (Ev.now _)⟩
        simp only [slices_BinarySearch_int_int.l0, slices_isNaN_int.f]
        rw [if_neg (by omega), if_pos (by omega), if_pos (by omega), if_pos (by omega), hr, if_neg e, hc]
        simp
    · refine ⟨false, Ev.step (f := fun _ => some _) (fun k => ?_) (Ev.now _)⟩
      simp only [slices_BinarySearch_int_int.l0]
      rw [if_neg (by omega), if_neg (by omega), hc]
  | succ d ih =>
    intro i j h1 h2 h3 h4 h5
    by_cases hij : i = j
    · subst hij
      exact ih i i (by omega) h2 (by omega) h4 h5
    · obtain ⟨m, hmm⟩ : ∃ m, (i + j) / 2 = m := ⟨_, rfl⟩
      have hml : m < l.length := by omega
      have him : i ≤ m := by omega
      have hmj : m < j := by omega
      have hmid : (wrap64 ((IntKind.u64.wrap (wrap64 ((i : Int) + (j : Int)))) / 2)) = (m : Int) := by
        rw [mid_eq i j (by omega), hmm]
      have HM := Aside0.mk hmid
      clear hmid hmm
      by_cases c : l[m] < a
      · obtain ⟨b, hb⟩ := ih (m + 1) j (by omega) h2 (by omega) (fun t ht h => Int.lt_of_le_of_lt (sorted_le hs t m ht hml (by omega)) c) h5
        refine ⟨b, Ev.step (fun k => ?_) hb⟩
        simp only [slices_BinarySearch_int_int.l0]
        rw [if_pos (by omega), HM.out, if_pos (by omega), if_pos (by omega), rd_get l m hml, Less_eq]
        simp only [Option.bind_some, decide_eq_true_eq]
        rw [if_pos c, wrap_id (by omega) (by omega), show ((m : Int) + 1) = ((m + 1 : Nat) : Int) by omega]
      · obtain ⟨b, hb⟩ := ih i m him (by omega) (by omega) h4 (fun t ht h => Int.le_trans (Int.not_lt.1 c) (sorted_le hs m t hml ht h))
        refine ⟨b, Ev.step (fun k => ?_) hb⟩
        simp only [slices_BinarySearch_int_int.l0]
        rw [if_pos (by omega), HM.out, if_pos (by omega), if_pos (by omega), rd_get l m hml, Less_eq]
        simp only [Option.bind_some, decide_eq_true_eq]
        rw [if_neg c]
theorem before_ev (l : List Int) (hl : l.length ≤ 140737488351232) (hs : l.Pairwise (· ≤ ·)) (a : Int) : Ev (fun k => rate_before.f k l a) (cntLt l a : Int) := by
  obtain ⟨b, hb⟩ := BinarySearch_loop l hl a hs l.length 0 l.length (by omega) (by omega) (by omega) (fun t _ h => by omega) (fun t h h' => by omega)
  exact Ev.bind hb (Ev.now _)
theorem in_ev (l : List Int) (hl : l.length ≤ 140737488351232) (hs : l.Pairwise (· ≤ ·)) (a b : Int) : Ev (fun k => rate_in.f k l a b) (cntIn l a b : Int) := by
  refine Ev.bind (before_ev l hl hs b) (Ev.bind (before_ev l hl hs a) ?_)
  have h := cnt_split l a b
  have h1 := cntLt_le l a
  have h2 := cntLt_le l b
  have e : mx 0 (wrap64 ((cntLt l b : Int) - (cntLt l a : Int))) = (cntIn l a b : Int) := by
    rw [wrap_id (by omega) (by omega), mx_eq]
    by_cases c : a ≤ b
    · have := h.1 c; split <;> omega
    · have := h.2 (by omega); split <;> omega
  rw [e]
  exact Ev.now _
theorem manyIn_loop (l : List Int) (hl : l.length ≤ 140737488351232) (a b : Int) (d : Nat) : ∀ (i acc : Nat), i + d = l.length → acc ≤ i →
    Ev (fun k => pileref1_manyIn.l0 k (acc : Int) l (l.length : Int) (i : Int) a b) ((acc + cntIn (l.drop i) a b : Nat) : Int) := by
  induction d with
  | zero =>
    intro i acc hi ha
    refine Ev.step (f := fun _ => some _) (fun k => ?_) (Ev.now _)
    simp only [pileref1_manyIn.l0]
    rw [if_neg (by omega), List.drop_of_length_le (by omega)]
    simp [cntIn]
  | succ d ih =>
    intro i acc hi ha
    have hlt : i < l.length := by omega
    have hd : l.drop i = l[i] :: l.drop (i + 1) := List.drop_eq_getElem_cons hlt
    have hr := rd_get l i hlt
    have hw : wrap64 ((i : Int) + 1) = ((i + 1 : Nat) : Int) := by rw [wrap_id (by omega) (by omega)]; omega
    rw [hd]
    by_cases c : a ≤ l[i] ∧ l[i] < b
    · have h := ih (i + 1) (acc + 1) (by omega) (by omega)
      have hw2 : wrap64 ((acc : Int) + 1) = ((acc + 1 : Nat) : Int) := by rw [wrap_id (by omega) (by omega)]; omega
      have e : acc + cntIn (l[i] :: l.drop (i + 1)) a b = acc + 1 + cntIn (l.drop (i + 1)) a b := by
        simp only [cntIn, List.countP_cons, decide_eq_true_eq]
        rw [if_pos c]; omega
      rw [e]
      refine Ev.step (fun k => ?_) h
      simp only [pileref1_manyIn.l0]
      rw [if_pos (by omega), if_pos (by omega), if_pos (by omega), hr, inside_eq]
      simp only [Option.bind_some, pileref1_truth.f, decide_eq_true_eq]
      rw [if_pos c]
      simp only [Option.bind_some]
      rw [hw, hw2]
    · have h := ih (i + 1) acc (by omega) (by omega)
      have e : acc + cntIn (l[i] :: l.drop (i + 1)) a b = acc + cntIn (l.drop (i + 1)) a b := by
        simp only [cntIn, List.countP_cons, decide_eq_true_eq]
        rw [if_neg c]; omega
      have hw2 : wrap64 ((acc : Int) + 0) = (acc : Int) := by rw [wrap_id (by omega) (by omega)]; omega
      rw [e]
      refine Ev.step (fun k => ?_) h
      simp only [pileref1_manyIn.l0]
      rw [if_pos (by omega), if_pos (by omega), if_pos (by omega), hr, inside_eq]
      simp only [Option.bind_some, pileref1_truth.f, decide_eq_true_eq]
      rw [if_neg c]
      simp only [Option.bind_some]
      rw [hw, hw2]
theorem manyIn_ev (l : List Int) (hl : l.length ≤ 140737488351232) (a b : Int) : Ev (fun k => pileref1_manyIn.f k l a b) (cntIn l a b : Int) := by
  have h := manyIn_loop l hl a b l.length 0 0 (by omega) (by omega)
  simpa [pileref1_manyIn.f] using h
theorem EqualInts_loop (l : List Int) (hl : l.length ≤ 140737488351232) (d : Nat) : ∀ i : Nat, i + d = l.length → Ev (fun k => slices_Equal_int_int.l0 k l l (l.length : Int) (i : Int)) true := by
  induction d with
  | zero =>
    intro i hi
    refine Ev.step (f := fun _ => some _) (fun k => ?_) (Ev.now _)
    simp only [slices_Equal_int_int.l0]
    rw [if_neg (by omega)]
  | succ d ih =>
    intro i hi
    have hw : wrap64 ((i : Int) + 1) = ((i + 1 : Nat) : Int) := by rw [wrap_id (by omega) (by omega)]; omega
    refine Ev.step (fun k => ?_) (ih (i + 1) (by omega))
    simp only [slices_Equal_int_int.l0]
    rw [if_pos (by omega), if_pos (by omega), if_pos (by omega), if_pos (by omega), if_pos trivial, hw]
theorem EqualInts_ev (l : List Int) (hl : l.length ≤ 140737488351232) : Ev (fun k => slices_Equal_int_int.f k l l) true := by
  simpa [slices_Equal_int_int.f] using EqualInts_loop l hl l.length 0 (by omega)
end Go.Proofs.Ytacgcamgfkjbiaa.PHoursCounted
