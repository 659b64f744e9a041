/- The list of times that the stream makes: it is short. -/
import Derived.Test.YtacgcamgfkjbiaaLHoursCountedtimes
namespace Go.Proofs.Ytacgcamgfkjbiaa.PHoursCounted
open Go.RowKit Go.Proofs.YtacgcamgfkjbiaaW.PrintWords Go.Proofs.YtacgcamgfkjbiaaW.PrintLast
theorem TimesOf_j2 (l : List Int) (hl : l.length ≤ 140737488351232) (L : List Int) (hL : L.length ≤ 12) (x s a b : Int) (h0 : 0 ≤ s) (h1 : s ≤ 4611686018427380000) :
    ∃ (L' : List Int) (b' s' : Int), Ev (fun k => pilemake_Stream_TimesOf.j2 k L x l s a b) (L', a, b', s') ∧ L'.length ≤ 13 ∧ s ≤ s' ∧ s' ≤ s + 3 := by
  obtain ⟨f, e1⟩ := Flip_spec l s 15 (by omega) (by omega) (by omega) hl
  cases f with
  | true =>
    obtain ⟨r2, e2, _⟩ := Pick_spec l (s + 1) [b, a, 345686400001] (by omega) (by omega) hl (by simp) (by simp)
    obtain ⟨r3, e3, _⟩ := Pick_spec l (s + 1 + 1) [0, r2, x] (by omega) (by omega) hl (by simp) (by simp)
    refine ⟨L ++ [r3], r2, s + 1 + 1 + 1, Ev.step (f := fun _ => some _) (fun k => ?_) (Ev.now _), by simp; omega, by omega, by omega⟩
    simp only [pilemake_Stream_TimesOf.j2, e1, Option.bind_some, if_true, e2, e3]
    rw [if_pos (by omega)]
  | false =>
    refine ⟨L, b, s + 1, Ev.step (f := fun _ => some _) (fun k => ?_) (Ev.now _), by omega, by omega, by omega⟩
    simp only [pilemake_Stream_TimesOf.j2, e1, Option.bind_some, Bool.false_eq_true, if_false]
theorem TimesOf_l1 (l : List Int) (hl : l.length ≤ 140737488351232) (x s a b : Int) (h0 : 0 ≤ s) (h1 : s ≤ 4611686018427380000) (n : Nat) : ∀ L : List Int, L.length = n → n ≤ 12 →
    ∃ (L' : List Int) (b' s' : Int), Ev (fun k => pilemake_Stream_TimesOf.l1 k L x l s a b) (L', a, b', s') ∧ L'.length ≤ 13 ∧ s ≤ s' ∧ s' ≤ s + 3 := by
  induction n with
  | zero =>
    intro L hL _
    obtain ⟨L', b', s', h, q⟩ := TimesOf_j2 l hl L (by omega) x s a b h0 h1
    refine ⟨L', b', s', Ev.step (fun k => ?_) h, q⟩
    simp only [pilemake_Stream_TimesOf.l1]
    rw [if_neg (by omega)]
  | succ n ih =>
    intro L hL hn
    have hw : wrap64 ((L.length : Int) - 1) = (n : Int) := by rw [wrap_id (by omega) (by omega)]; omega
    by_cases c : rd L (n : Int) ≥ b
    · obtain ⟨L', b', s', h, q⟩ := ih (L.take n) (by simp; omega) (by omega)
      refine ⟨L', b', s', Ev.step (fun k => ?_) h, q⟩
      simp only [pilemake_Stream_TimesOf.l1, hw]
      rw [if_pos (by omega), if_pos (by omega), if_pos (by omega), if_pos c, if_pos (by omega), Int.toNat_natCast]
    · obtain ⟨L', b', s', h, q⟩ := TimesOf_j2 l hl L (by omega) x s a b h0 h1
      refine ⟨L', b', s', Ev.step (fun k => ?_) h, q⟩
      simp only [pilemake_Stream_TimesOf.l1, hw]
      rw [if_pos (by omega), if_pos (by omega), if_pos (by omega), if_neg c]
theorem TimesOf_l0 (l : List Int) (hl : l.length ≤ 140737488351232) (m a b : Int) (hm : 0 ≤ m ∧ m ≤ 12) (d : Nat) : ∀ (i : Int) (L : List Int) (x s : Int), 0 ≤ i → i + d = m → L.length ≤ i → 0 ≤ s → s + d ≤ 4611686018427380000 →
    ∃ (L' : List Int) (b' s' : Int), Ev (fun k => pilemake_Stream_TimesOf.l0 k L x m i l s a b) (L', a, b', s') ∧ L'.length ≤ 13 ∧ s ≤ s' ∧ s' ≤ s + d + 3 := by
  induction d with
  | zero =>
    intro i L x s hi hd hL h0 h1
    obtain ⟨L', b', s', h, q1, q2, q3⟩ := TimesOf_l1 l hl x s a b h0 (by omega) L.length L rfl (by omega)
    refine ⟨L', b', s', Ev.step (fun k => ?_) h, q1, q2, by omega⟩
    simp only [pilemake_Stream_TimesOf.l0]
    rw [if_neg (by omega)]
  | succ d ih =>
    intro i L x s hi hd hL h0 h1
    obtain ⟨r, e, _⟩ := Pick_spec l s [0, 1, 1000, 60000, 300000, 1800000] (by omega) (by omega) hl (by simp) (by simp)
    obtain ⟨L', b', s', h, q1, q2, q3⟩ := ih (i + 1) (L ++ [wrap64 (x + r)]) (wrap64 (x + r)) (s + 1) (by omega) (by omega) (by simp; omega) (by omega) (by omega)
    have hw : wrap64 (i + 1) = i + 1 := wrap_id (by omega) (by omega)
    refine ⟨L', b', s', Ev.step (fun k => ?_) h, q1, by omega, by omega⟩
    simp only [pilemake_Stream_TimesOf.l0, e, Option.bind_some, hw]
    rw [if_pos (by omega), if_pos (by omega)]
theorem TimesOf_spec (l : List Int) (s : Int) (h0 : 0 ≤ s) (h1 : s ≤ 4611686018427370000) (hl : l.length ≤ 140737488351232) :
    ∃ (L : List Int) (a b s' : Int), Ev (fun k => pilemake_Stream_TimesOf.f k l s) (L, a, b, s') ∧ L.length ≤ 13 ∧ s ≤ s' ∧ s' ≤ s + 20 := by
  obtain ⟨r1, e1, _⟩ := Pick_spec l s [0, 1000] (by omega) (by omega) hl (by simp) (by simp)
  obtain ⟨r2, e2, _⟩ := Pick_spec l (s + 1) [3600000, 5000000, 9000000, 30000000] (by omega) (by omega) hl (by simp) (by simp)
  obtain ⟨r3, e3, r3a, r3b⟩ := Range_spec l (s + 1 + 1) 0 12 (by omega) (by omega) (by omega) (by omega) (by omega) hl
  obtain ⟨L', b', s', h, q1, q2, q3⟩ := TimesOf_l0 l hl r3 r1 r2 ⟨r3a, r3b⟩ r3.toNat 0 [] r1 (s + 1 + 1 + 1) (by omega) (by omega) (by simp) (by omega) (by omega)
  refine ⟨L', r1, b', s', ?_, q1, by omega, by omega⟩
  simp only [pilemake_Stream_TimesOf.f, e1, e2, e3, Option.bind_some]
  exact h
end Go.Proofs.Ytacgcamgfkjbiaa.PHoursCounted
