/- Plain laws of the small functions that all statements come to: ranges, the first error, the stream's draws. -/
import Derived.Test.YtonnpocamipbiaaPPlacesApartx0
import Derived.Test.YtonnpocamipbiaaPPlacesApartx1
import Derived.Test.YtonnpocamipbiaaPPlacesApartx2
import Derived.Test.YtonnpocamipbiaaPPlacesApartx3
import Derived.Test.YtonnpocamipbiaaPPlacesApartx4
import Derived.Test.YtonnpocamipbiaaPPlacesApartx5
import Derived.Test.YtonnpocamipbiaaPPlacesApartx6
import Derived.Test.YtonnpocamipbiaaPPlacesApartx7
import Derived.Test.YtonnpocamipbiaaPPlacesApartx8
namespace Go.Proofs.Ytonnpocamipbiaa.PPlacesApart
open Go.RowKit Go.Proofs.YtonnpocamipbiaaW.PrintWords Go.Proofs.YtonnpocamipbiaaW.PrintLast
theorem wrap_id {e : Int} (h1 : -9223372036854775808 ≤ e) (h2 : e ≤ 9223372036854775807) : wrap64 e = e := by
  unfold wrap64
  omega
theorem tmod_pos {a n : Int} (h : 0 ≤ a) : a.tmod n = a % n := Int.tmod_eq_emod_of_nonneg h
theorem tmod_neg {a n : Int} (h : a ≤ 0) : a.tmod n = -((-a) % n) := by
  have h1 := Int.neg_tmod (-a) n
  rw [Int.neg_neg] at h1
  rw [h1, Int.tmod_eq_emod_of_nonneg (by omega)]
theorem tdiv_pos {a n : Int} (h : 0 ≤ a) : a.tdiv n = a / n := Int.tdiv_eq_ediv_of_nonneg h
theorem tdiv_neg {a n : Int} (h : a ≤ 0) : a.tdiv n = -((-a) / n) := by
  have h1 := Int.neg_tdiv (-a) n
  rw [Int.neg_neg] at h1
  rw [h1, Int.tdiv_eq_ediv_of_nonneg (by omega)]
theorem Outside_eq (a lo hi : Int) : kit_Outside.f a lo hi = some (decide (a < lo ∨ hi < a)) := by
  unfold kit_Outside.f
  split <;> simp [*]
theorem in_eq (a lo hi : Int) : pileref1_in.f a lo hi = some (decide (lo ≤ a ∧ a ≤ hi)) := by
  unfold pileref1_in.f
  split <;> simp [*]
theorem SpanFault_eq (a lo hi : Int) : pileref1_SpanFault.f a lo hi = some (if lo ≤ a ∧ a ≤ hi then 0 else 1) := by
  unfold pileref1_SpanFault.f
  rw [in_eq]
  simp only [Option.bind_some, decide_eq_true_eq]
  split <;> rfl
theorem CheckSite_eq (n e : Int) : place_CheckSite.f n e = some (if (-324000 ≤ n ∧ n ≤ 324000) ∧ -648000 ≤ e ∧ e ≤ 647999 then 0 else 1) := by
  unfold place_CheckSite.f
  rw [Outside_eq, Outside_eq]
  simp only [Option.bind_some, decide_eq_true_eq]
  by_cases h : -324000 ≤ n ∧ n ≤ 324000
  · rw [if_neg (by omega)]
    by_cases h2 : -648000 ≤ e ∧ e ≤ 647999
    · rw [if_neg (by omega), if_pos ⟨h, h2⟩]
    · rw [if_pos (by omega), if_neg (by omega)]
  · rw [if_pos (by omega), if_neg (by omega)]
theorem SiteFault_eq (n e : Int) : pileref1_SiteFault.f n e = some (if (-324000 ≤ n ∧ n ≤ 324000) ∧ -648000 ≤ e ∧ e ≤ 647999 then 0 else 1) := by
  unfold pileref1_SiteFault.f
  rw [in_eq, in_eq]
  simp only [Option.bind_some, decide_eq_true_eq]
  by_cases h : -324000 ≤ n ∧ n ≤ 324000
  · rw [if_pos h]
    by_cases h2 : -648000 ≤ e ∧ e ≤ 647999
    · rw [if_pos h2, if_pos ⟨h, h2⟩]
    · rw [if_neg h2, if_neg (by omega)]
  · rw [if_neg h, if_neg (by omega)]
/-- The first error of some. -/
def firstErr : List Int → Int
  | [] => 0
  | e :: l => if e = 0 then firstErr l else e
theorem Or_from (l : List Int) (hl : l.length ≤ 1000) (d : Nat) : ∀ (k i : Nat), i + d = l.length → d < k → api_Errno.l0 k 0 l (l.length : Int) i = some (firstErr (l.drop i)) := by
  induction d with
  | zero =>
    intro k i hi hk
    obtain ⟨k, rfl⟩ : ∃ m, k = m + 1 := ⟨k - 1, by omega⟩
    simp only [api_Errno.l0]
    rw [if_neg (by omega), List.drop_of_length_le (by omega)]
    rfl
  | succ d ih =>
    intro k i hi hk
    obtain ⟨k, rfl⟩ : ∃ m, k = m + 1 := ⟨k - 1, by omega⟩
    simp only [api_Errno.l0]
    rw [if_pos (by omega), if_pos (by omega), if_pos (by omega)]
    have hd : l.drop i = l[i] :: l.drop (i + 1) := List.drop_eq_getElem_cons (by omega)
    have hr : rd l (i : Int) = l[i] := by simp [rd, List.getD, List.getElem?_eq_getElem (show i < l.length by omega)]
    rw [hd, hr]
    simp only [firstErr]
    by_cases h : l[i] = 0
    · rw [if_pos h, if_pos h, wrap_id (by omega) (by omega)]
      exact ih k (i + 1) (by omega) (by omega)
    · rw [if_neg h, if_neg h]
theorem Or_eq (l : List Int) (k : Nat) (hl : l.length ≤ 1000) (hk : l.length < k) : api_Errno.f k l = some (firstErr l) := by
  have h := Or_from l hl l.length k 0 (by omega) hk
  simpa [api_Errno.f] using h
theorem Or2 (a b : Int) (k : Nat) : api_Errno.f (k + 3) [a, b] = some (if a = 0 then b else a) := by
  rw [Or_eq _ _ (by simp) (by simp <;> omega)]
  simp only [firstErr, Option.some.injEq]
  split <;> (try split) <;> simp_all
theorem Or3 (a b c : Int) (k : Nat) : api_Errno.f (k + 4) [a, b, c] = some (if a = 0 then (if b = 0 then c else b) else a) := by
  rw [Or_eq _ _ (by simp) (by simp <;> omega)]
  simp only [firstErr, Option.some.injEq]
  repeat' split
  all_goals simp_all
theorem Below_spec (x n : Int) (hn : n ≤ 9223372036854775807) : ∃ r, pilemake_Below.f x n = some r ∧ 0 ≤ r ∧ (1 ≤ n → r < n) ∧ (n < 1 → r = 0) := by
  unfold pilemake_Below.f
  by_cases h : n < 1
  · rw [if_pos h]
    exact ⟨0, rfl, by omega, by omega, fun _ => rfl⟩
  · rw [if_neg h, if_neg (by omega)]
    have hm := Int.natAbs_tmod x n
    have hm2 := Nat.mod_lt x.natAbs (show n.natAbs > 0 by omega)
    have h1 : x.tmod n < n := by omega
    have h2 : -n < x.tmod n := by omega
    by_cases h3 : x.tmod n < 0
    · rw [if_pos h3]
      refine ⟨_, rfl, ?_, ?_, ?_⟩ <;> rw [wrap_id (by omega) (by omega)] <;> omega
    · rw [if_neg h3]
      exact ⟨_, rfl, by omega, by omega, by omega⟩
theorem Next_spec (l : List Int) (s n : Int) (h0 : 0 ≤ s) (h1 : s ≤ 4611686018427387904) (hn : n ≤ 9223372036854775807) (hl : l.length ≤ 140737488351232) :
    ∃ r, pilemake_Stream_Next.f l s n = some (r, s + 1) ∧ 0 ≤ r ∧ (1 ≤ n → r < n) := by
  unfold pilemake_Stream_Next.f
  have hs : wrap64 (s + 1) = s + 1 := wrap_id (by omega) (by omega)
  have hs2 : wrap64 (s + 1 - 1) = s := by rw [wrap_id (by omega) (by omega)]; omega
  rw [hs, hs2]
  by_cases h : (l.length : Int) = 0
  · rw [if_pos h]
    obtain ⟨r, hr, r0, r1, _⟩ := Below_spec (wrap64 ((s + 1) * 7919)) n hn
    exact ⟨r, by rw [hr]; rfl, r0, r1⟩
  · rw [if_neg h]
    have e : Int.tmod s (l.length : Int) = s % (l.length : Int) := Int.tmod_eq_emod_of_nonneg h0
    have m0 : 0 ≤ s % (l.length : Int) := Int.emod_nonneg _ h
    have m1 : s % (l.length : Int) < (l.length : Int) := Int.emod_lt_of_pos _ (by omega)
    rw [e, if_pos m0, if_pos m1]
    obtain ⟨a, ha, _⟩ := Below_spec (rd l (s % (l.length : Int))) 1073741824 (by omega)
    rw [ha]
    simp only [Option.bind_some]
    obtain ⟨r, hr, r0, r1, _⟩ := Below_spec (wrap64 (a + wrap64 (wrap64 (Int.tdiv s (l.length : Int)) * wrap64 (7919 + s % (l.length : Int))))) n hn
    exact ⟨r, by rw [hr]; rfl, r0, r1⟩
theorem rd_mem (l : List Int) (i : Int) (h0 : 0 ≤ i) (h1 : i < l.length) : rd l i ∈ l := by
  have h : i.toNat < l.length := by omega
  have : rd l i = l[i.toNat] := by simp [rd, List.getD, List.getElem?_eq_getElem h]
  rw [this]
  exact List.getElem_mem h
theorem Pick_spec (l : List Int) (s : Int) (m : List Int) (h0 : 0 ≤ s) (h1 : s ≤ 4611686018427387904) (hl : l.length ≤ 140737488351232) (hm : 1 ≤ m.length) (hm2 : m.length ≤ 1000) :
    ∃ r, pilemake_Stream_Pick.f l s m = some (r, s + 1) ∧ r ∈ m := by
  unfold pilemake_Stream_Pick.f
  obtain ⟨r, hr, r0, r1⟩ := Next_spec l s (m.length : Int) h0 h1 (by omega) hl
  have r2 := r1 (by omega)
  refine ⟨rd m r, ?_, rd_mem m r r0 r2⟩
  rw [hr]
  simp only [Option.bind_some]
  rw [if_pos r0, if_pos r2]
theorem Flip_spec (l : List Int) (s n : Int) (h0 : 0 ≤ s) (h1 : s ≤ 4611686018427387904) (hn : n ≤ 9223372036854775807) (hl : l.length ≤ 140737488351232) :
    ∃ b, pilemake_Stream_Flip.f l s n = some (b, s + 1) := by
  unfold pilemake_Stream_Flip.f
  obtain ⟨r, hr, _⟩ := Next_spec l s n h0 h1 hn hl
  exact ⟨r == 0, by rw [hr]; rfl⟩
theorem Range_spec (l : List Int) (s a b : Int) (h0 : 0 ≤ s) (h1 : s ≤ 4611686018427387904) (ha : -1099511627776 ≤ a) (hb : b ≤ 1099511627776) (hab : a ≤ b) (hl : l.length ≤ 140737488351232) :
    ∃ r, pilemake_Stream_Range.f l s a b = some (r, s + 1) ∧ a ≤ r ∧ r ≤ b := by
  unfold pilemake_Stream_Range.f
  rw [if_neg (by omega), wrap_id (e := b - a) (by omega) (by omega), wrap_id (e := b - a + 1) (by omega) (by omega)]
  obtain ⟨r, hr, r0, r1⟩ := Next_spec l s (b - a + 1) h0 h1 (by omega) hl
  have r2 := r1 (by omega)
  rw [hr]
  simp only [Option.bind_some]
  rw [wrap_id (e := a + r) (by omega) (by omega)]
  exact ⟨_, rfl, by omega, by omega⟩
theorem Odd_spec (l : List Int) (s a b : Int) (h0 : 0 ≤ s) (h1 : s ≤ 4611686018427387000) (ha : -1099511627770 ≤ a) (hb : b ≤ 1099511627770) (hab : a ≤ b) (hl : l.length ≤ 140737488351232) :
    ∃ r, pilemake_Stream_Odd.f l s a b = some (r, s + 2) ∧ -1099511627776 ≤ r ∧ r ≤ 1099511627776 := by
  unfold pilemake_Stream_Odd.f
  obtain ⟨f, hf⟩ := Flip_spec l s 12 h0 (by omega) (by omega) hl
  rw [hf]
  simp only [Option.bind_some]
  cases f with
  | true =>
    obtain ⟨r, hr, hm⟩ := Pick_spec l (s + 1) [wrap64 (a - 1), wrap64 (b + 1), a, b, -1099511627776, 1099511627776] (by omega) (by omega) hl (by simp) (by simp)
    rw [if_pos rfl, hr]
    refine ⟨r, by simp only [Option.bind_some]; rw [show s + 1 + 1 = s + 2 by omega], ?_⟩
    rw [wrap_id (by omega) (by omega), wrap_id (by omega) (by omega)] at hm
    simp only [List.mem_cons, List.not_mem_nil, or_false] at hm
    omega
  | false =>
    obtain ⟨r, hr, r0, r1⟩ := Range_spec l (s + 1) a b (by omega) (by omega) (by omega) (by omega) hab hl
    rw [if_neg (by simp), hr]
    exact ⟨r, by simp only [Option.bind_some]; rw [show s + 1 + 1 = s + 2 by omega], by omega, by omega⟩
theorem SiteOf_spec (l : List Int) (s : Int) (h0 : 0 ≤ s) (h1 : s ≤ 4611686018427380000) (hl : l.length ≤ 140737488351232) :
    ∃ n e s', pilemake_Stream_SiteOf.f l s = some (n, e, s') ∧ s ≤ s' ∧ s' ≤ s + 9 ∧ -1099511627776 ≤ n ∧ n ≤ 1099511627776 ∧ -1099511627776 ≤ e ∧ e ≤ 1099511627776 := by
  unfold pilemake_Stream_SiteOf.f
  obtain ⟨r1, e1, a1, b1⟩ := Range_spec l s (-324000) 324000 h0 (by omega) (by omega) (by omega) (by omega) hl
  rw [e1]
  simp only [Option.bind_some]
  obtain ⟨r2, e2, m2⟩ := Pick_spec l (s + 1) [0, 172800, 174599, -324000, 324000, r1] (by omega) (by omega) hl (by simp) (by simp)
  rw [e2]
  simp only [Option.bind_some]
  obtain ⟨r3, e3, a3, b3⟩ := Range_spec l (s + 1 + 1) (-648000) 647999 (by omega) (by omega) (by omega) (by omega) (by omega) hl
  rw [e3]
  simp only [Option.bind_some]
  obtain ⟨r4, e4, m4⟩ := Pick_spec l (s + 1 + 1 + 1) [0, 36000, -648000, 647999, r3] (by omega) (by omega) hl (by simp) (by simp)
  rw [e4]
  simp only [Option.bind_some]
  obtain ⟨f, e5⟩ := Flip_spec l (s + 1 + 1 + 1 + 1) 20 (by omega) (by omega) (by omega) hl
  rw [e5]
  simp only [Option.bind_some]
  simp only [List.mem_cons, List.not_mem_nil, or_false] at m2 m4
  cases f with
  | true =>
    obtain ⟨r6, e6, a6, b6⟩ := Odd_spec l (s + 1 + 1 + 1 + 1 + 1) (-324000) 324000 (by omega) (by omega) (by omega) (by omega) (by omega) hl
    obtain ⟨r7, e7, a7, b7⟩ := Odd_spec l (s + 1 + 1 + 1 + 1 + 1 + 2) (-648000) 647999 (by omega) (by omega) (by omega) (by omega) (by omega) hl
    rw [if_pos rfl, e6]
    simp only [Option.bind_some]
    rw [e7]
    exact ⟨r6, r7, _, rfl, by omega, by omega, by omega, by omega, by omega, by omega⟩
  | false =>
    rw [if_neg (by simp)]
    exact ⟨r2, r4, _, rfl, by omega, by omega, by omega, by omega, by omega, by omega⟩
end Go.Proofs.Ytonnpocamipbiaa.PPlacesApart
