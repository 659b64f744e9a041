/- The strings of locators that the stream makes: each is made, and none is long. -/
import Derived.Laws.Cover4
import Derived.Test.YtonnpocamipbiaaLPlacesApartbase
namespace Go.Proofs.Ytonnpocamipbiaa.PPlacesApart
open Go.RowKit Go.Proofs.YtonnpocamipbiaaW.PrintWords Go.Proofs.YtonnpocamipbiaaW.PrintLast
theorem LocatorFor_1_eq (a n : Int) (hn : n ≠ 0) : ∃ t, pileref1_LocatorFor_1.f a n = some t ∧ t.size ≤ 4 := by
  unfold pileref1_LocatorFor_1.f
  rw [if_neg hn]
  exact ⟨_, rfl, encode_size_le _⟩
theorem LocatorFor_j0 (m a b : Int) (t : ByteArray) (ht : t.size ≤ 16) : ∃ r, Ev (fun k => pileref1_LocatorFor.j0 k m a b t) r ∧ r.size ≤ 24 := by
  obtain ⟨p, p1, p2⟩ := LocatorFor_1_eq (wrap64 (Int.tdiv a 300)) 24 (by decide)
  obtain ⟨q, q1, q2⟩ := LocatorFor_1_eq (wrap64 (Int.tdiv b 150)) 24 (by decide)
  by_cases c : m > 4
  · refine ⟨t ++ (p ++ q), Ev.step (f := fun _ => some _) (fun k => ?_) (Ev.now _), by simp only [ByteArray.size_append]; omega⟩
    simp only [pileref1_LocatorFor.j0, p1, q1, Option.bind_some]
    rw [if_pos c, if_pos (by omega), if_pos (by simp only [ByteArray.size_append]; omega)]
  · refine ⟨t, Ev.step (f := fun _ => some _) (fun k => ?_) (Ev.now _), by omega⟩
    simp only [pileref1_LocatorFor.j0]
    rw [if_neg c]
theorem LocatorFor_ev (n e m : Int) : ∃ r, Ev (fun k => pileref1_LocatorFor.f k n e m) r ∧ r.size ≤ 24 := by
  obtain ⟨p, p1, p2⟩ := LocatorFor_1_eq (wrap64 (Int.tdiv (wrap64 (e + 648000)) 72000)) 18 (by decide)
  obtain ⟨q, q1, q2⟩ := LocatorFor_1_eq (wrap64 (Int.tdiv (mn (wrap64 (n + 324000)) 647999) 36000)) 18 (by decide)
  have hu := encode_size_le (wrap32 (wrap64 (48 + (Int.tmod (wrap64 (Int.tdiv (wrap64 (e + 648000)) 7200)) 10))))
  have hv := encode_size_le (wrap32 (wrap64 (48 + (Int.tmod (wrap64 (Int.tdiv (mn (wrap64 (n + 324000)) 647999) 3600)) 10))))
  unfold pileref1_LocatorFor.f
  rw [p1, q1]
  generalize (Utf8.encode (wrap32 (wrap64 (48 + (Int.tmod (wrap64 (Int.tdiv (wrap64 (e + 648000)) 7200)) 10))))) = u at *
  generalize (Utf8.encode (wrap32 (wrap64 (48 + (Int.tmod (wrap64 (Int.tdiv (mn (wrap64 (n + 324000)) 647999) 3600)) 10))))) = v at *
  simp only [Option.bind_some]
  have h1 : p.size + q.size ≤ 9223372036854775807 := by omega
  have h2 : u.size + v.size ≤ 9223372036854775807 := by omega
  have h3 : (p ++ q).size + (u ++ v).size ≤ 9223372036854775807 := by simp only [ByteArray.size_append]; omega
  simp only [if_pos h1, if_pos h2, if_pos h3]
  by_cases c : m > 2
  · simp only [if_pos c]
    exact LocatorFor_j0 m _ _ _ (by simp only [ByteArray.size_append]; omega)
  · simp only [if_neg c]
    exact LocatorFor_j0 m _ _ _ (by simp only [ByteArray.size_append]; omega)
theorem RightSite_loop (l : List Int) (hl : l.length ≤ 140737488351232) (d : Nat) : ∀ (i s : Int), 0 ≤ i → i + d = 6 → 0 ≤ s → s ≤ 4611686018427370000 + 9 * i → ∃ n e s', Ev (fun k => pilemake_Stream_RightSite.l0 k i l s) (n, e, s') ∧ s ≤ s' ∧ s' ≤ s + 9 * d := by
  induction d with
  | zero =>
    intro i s h0 hi hs h1
    refine ⟨0, 0, s, Ev.step (f := fun _ => some _) (fun k => ?_) (Ev.now _), by omega, by omega⟩
    simp only [pilemake_Stream_RightSite.l0]
    rw [if_neg (by omega)]
  | succ d ih =>
    intro i s h0 hi hs h1
    obtain ⟨n, e, s1, e1, r1, r2, r3, r4, r5, r6⟩ := SiteOf_spec l s hs (by omega) hl
    by_cases c : pileref1_SiteFault.f n e = some 0
    · refine ⟨n, e, s1, Ev.step (f := fun _ => some _) (fun k => ?_) (Ev.now _), by omega, by omega⟩
      simp only [pilemake_Stream_RightSite.l0, e1, c, Option.bind_some]
      rw [if_pos (by omega), if_pos trivial]
    · obtain ⟨n', e', s', h, q1, q2⟩ := ih (i + 1) s1 (by omega) (by omega) (by omega) (by omega)
      refine ⟨n', e', s', Ev.step (fun k => ?_) h, by omega, by omega⟩
      rw [SiteFault_eq] at c
      simp only [pilemake_Stream_RightSite.l0, e1, SiteFault_eq, Option.bind_some]
      rw [if_pos (by omega), if_neg (fun z => c (by rw [z])), wrap_id (by omega) (by omega)]
theorem RightSite_spec (l : List Int) (s : Int) (h0 : 0 ≤ s) (h1 : s ≤ 4611686018427370000) (hl : l.length ≤ 140737488351232) : ∃ n e s', Ev (fun k => pilemake_Stream_RightSite.f k l s) (n, e, s') ∧ s ≤ s' ∧ s' ≤ s + 54 := by
  obtain ⟨n, e, s', h, q1, q2⟩ := RightSite_loop l hl 6 0 s (by omega) (by omega) h0 (by omega)
  exact ⟨n, e, s', h, q1, by omega⟩
theorem toList_nil (t : ByteArray) (h : t.toList ≠ []) : 1 ≤ t.size := by
  rcases Nat.eq_zero_or_pos t.size with c | c
  · exfalso
    apply h
    rw [ByteArray.toList_eq]
    exact List.eq_nil_of_length_eq_zero (by simpa using c)
  · exact c
theorem Changed_j0 (l : List Int) (hl : l.length ≤ 140737488351232) (a b : ByteArray) (ha : a.size ≤ 100) (ha1 : 1 ≤ a.size) (hb : b.size ≤ 100) (hb1 : 1 ≤ b.size) (s : Int) (h0 : 0 ≤ s) (h1 : s ≤ 4611686018427380000) :
    ∃ (t : ByteArray) (s' : Int), Ev (fun k => pilemake_Stream_Changed.j0 k a b false l s) (t, s') ∧ t.size ≤ 204 ∧ s ≤ s' ∧ s' ≤ s + 3 := by
  obtain ⟨i, e1, i0, i1⟩ := Next_spec l s (a.size : Int) h0 (by omega) (by omega) hl
  obtain ⟨j, e2, j0, j1⟩ := Next_spec l (s + 1) (b.size : Int) (by omega) (by omega) (by omega) hl
  obtain ⟨g, e3, _, _⟩ := Next_spec l (s + 1 + 1) 3 (by omega) (by omega) (by omega) hl
  have i2 := i1 (by omega)
  have j2 := j1 (by omega)
  have w1 : wrap64 (i + 1) = i + 1 := wrap_id (by omega) (by omega)
  have he := encode_size_le (wrap32 (bt b j))
  have z1 : (a.extract 0 i.toNat).size ≤ 100 := by rw [ByteArray.size_extract]; omega
  have z2 : (a.extract (i + 1).toNat a.size).size ≤ 100 := by rw [ByteArray.size_extract]; omega
  have z3 : (a.extract i.toNat a.size).size ≤ 100 := by rw [ByteArray.size_extract]; omega
  have z4 : i ≤ (a.size : Int) := by omega
  have z5 : 0 ≤ i + 1 := by omega
  have z6 : i + 1 ≤ (a.size : Int) := by omega
  by_cases g0 : g = 0
  · refine ⟨(a.extract 0 i.toNat ++ Utf8.encode (wrap32 (bt b j))) ++ a.extract (i + 1).toNat a.size, s + 1 + 1 + 1, Ev.step (f := fun _ => some _) (fun k => ?_) (Ev.now _), ?_, by omega, by omega⟩
    · simp only [pilemake_Stream_Changed.j0, e1, e2, e3, Option.bind_some, Bool.false_eq_true, if_false, if_pos g0, if_pos i0, if_pos j0, if_pos j2, w1, if_pos z4, if_pos z5, if_pos z6]
      rw [if_pos (by omega), if_pos (by simp only [ByteArray.size_append]; omega)]
    · simp only [ByteArray.size_append]; omega
  · by_cases g1 : g = 1
    · refine ⟨(a.extract 0 i.toNat ++ Utf8.encode (wrap32 (bt b j))) ++ a.extract i.toNat a.size, s + 1 + 1 + 1, Ev.step (f := fun _ => some _) (fun k => ?_) (Ev.now _), ?_, by omega, by omega⟩
      · simp only [pilemake_Stream_Changed.j0, e1, e2, e3, Option.bind_some, Bool.false_eq_true, if_false, if_neg g0, if_pos g1, if_pos i0, if_pos j0, if_pos j2, if_pos z4]
        rw [if_pos (by omega), if_pos (by simp only [ByteArray.size_append]; omega)]
      · simp only [ByteArray.size_append]; omega
    · refine ⟨a.extract 0 i.toNat ++ a.extract (i + 1).toNat a.size, s + 1 + 1 + 1, Ev.step (f := fun _ => some _) (fun k => ?_) (Ev.now _), ?_, by omega, by omega⟩
      · simp only [pilemake_Stream_Changed.j0, e1, e2, e3, Option.bind_some, Bool.false_eq_true, if_false, if_neg g0, if_neg g1, if_pos i0, if_pos j0, if_pos j2, w1, if_pos z4, if_pos z5, if_pos z6]
        rw [if_pos (by omega)]
      · simp only [ByteArray.size_append]; omega
theorem Changed_true (l : List Int) (a b : ByteArray) (s : Int) : Ev (fun k => pilemake_Stream_Changed.j0 k a b true l s) (b, s) := by
  refine Ev.step (f := fun _ => some _) (fun k => ?_) (Ev.now _)
  simp only [pilemake_Stream_Changed.j0, if_true]
theorem Changed_spec (l : List Int) (hl : l.length ≤ 140737488351232) (a b : ByteArray) (ha : a.size ≤ 100) (hb : b.size ≤ 100) (s : Int) (h0 : 0 ≤ s) (h1 : s ≤ 4611686018427380000) :
    ∃ (t : ByteArray) (s' : Int), Ev (fun k => pilemake_Stream_Changed.f k l s a b) (t, s') ∧ t.size ≤ 204 ∧ s ≤ s' ∧ s' ≤ s + 3 := by
  unfold pilemake_Stream_Changed.f
  by_cases c : a.toList = []
  · simp only [if_pos c]
    exact ⟨b, s, Changed_true l a b s, by omega, by omega, by omega⟩
  · simp only [if_neg c]
    by_cases d : b.toList = []
    · rw [show (b.toList == []) = true by rw [beq_iff_eq]; exact d]
      exact ⟨b, s, Changed_true l a b s, by omega, by omega, by omega⟩
    · rw [show (b.toList == []) = false by rw [beq_eq_false_iff_ne]; exact d]
      exact Changed_j0 l hl a b ha (toList_nil a c) hb (toList_nil b d) s h0 h1
theorem LocatorText_spec (l : List Int) (s : Int) (h0 : 0 ≤ s) (h1 : s ≤ 4611686018427360000) (hl : l.length ≤ 140737488351232) : ∃ (t : ByteArray) (s' : Int), Ev (fun k => pilemake_Stream_LocatorText.f k l s) (t, s') ∧ t.size ≤ 204 ∧ s ≤ s' ∧ s' ≤ s + 60 := by
  obtain ⟨n, e, s1, e1, q1, q2⟩ := RightSite_spec l s h0 (by omega) hl
  obtain ⟨m, e2, _⟩ := Pick_spec l s1 [2, 4, 4, 6, 6] (by omega) (by omega) hl (by simp) (by simp)
  obtain ⟨t, e3, ht⟩ := LocatorFor_ev n e m
  obtain ⟨f, e4⟩ := Flip_spec l (s1 + 1) 12 (by omega) (by omega) (by omega) hl
  cases f with
  | true =>
    obtain ⟨t', s', e5, q3, q4, q5⟩ := Changed_spec l hl t (⟨#[97, 114, 115, 120, 48, 57, 121]⟩ : ByteArray) (by omega) (by decide) (s1 + 1 + 1) (by omega) (by omega)
    refine ⟨t', s', Ev.bind e1 ?_, q3, by omega, by omega⟩
    simp only [e2, Option.bind_some]
    refine Ev.bind e3 ?_
    simp only [e4, Option.bind_some, if_true]
    exact Ev.bind e5 (Ev.now _)
  | false =>
    refine ⟨t, s1 + 1 + 1, Ev.bind e1 ?_, by omega, by omega, by omega⟩
    simp only [e2, Option.bind_some]
    refine Ev.bind e3 ?_
    simp only [e4, Option.bind_some, Bool.false_eq_true, if_false]
    exact Ev.now _
theorem LocatorList_loop (l : List Int) (hl : l.length ≤ 140737488351232) (m : Int) (hm : 0 ≤ m ∧ m ≤ 100) (d : Nat) : ∀ (i s : Int) (acc : List ByteArray), 0 ≤ i → i + d = m → acc.length ≤ i → 0 ≤ s → s ≤ 4611686018427000000 + 100 * i →
    ∃ (L : List ByteArray) (s' : Int), Ev (fun k => pilemake_Stream_LocatorList.l0 k acc m i l s) (L, s') ∧ L.length ≤ 101 ∧ s ≤ s' ∧ s' ≤ s + 100 * d + 100 := by
  induction d with
  | zero =>
    intro i s acc h0 hi ha hs h1
    obtain ⟨f, e4⟩ := Flip_spec l s 20 (by omega) (by omega) (by omega) hl
    cases f with
    | true =>
      obtain ⟨t, s', e5, _, q1, q2⟩ := LocatorText_spec l (s + 1) (by omega) (by omega) hl
      refine ⟨acc ++ [t], s', Ev.step (f := fun k => (pilemake_Stream_LocatorText.f k l (s + 1)).bind fun bt200 => if acc.length < 8796093022208 then some (acc ++ [bt200.1], bt200.2) else none) (fun k => ?_) (Ev.bind e5 ?_), by simp; omega, by omega, by omega⟩
      · simp only [pilemake_Stream_LocatorList.l0, e4, Option.bind_some, if_true]
        rw [if_neg (by omega)]
      · have z : acc.length < 8796093022208 := by omega
        simp only [if_pos z]
        exact Ev.now _
    | false =>
      refine ⟨acc, s + 1, Ev.step (f := fun _ => some _) (fun k => ?_) (Ev.now _), by omega, by omega, by omega⟩
      simp only [pilemake_Stream_LocatorList.l0, e4, Option.bind_some, Bool.false_eq_true, if_false]
      rw [if_neg (by omega)]
  | succ d ih =>
    intro i s acc h0 hi ha hs h1
    obtain ⟨n, e, s1, e1, q1, q2⟩ := RightSite_spec l s hs (by omega) hl
    obtain ⟨g, e2, _⟩ := Pick_spec l s1 [4, 4, 6, 6, 6, 2] (by omega) (by omega) hl (by simp) (by simp)
    obtain ⟨t, e3, ht⟩ := LocatorFor_ev n e g
    obtain ⟨L, s', h, p1, p2, p3⟩ := ih (i + 1) (s1 + 1) (acc ++ [t]) (by omega) (by omega) (by simp; omega) (by omega) (by omega)
    have z : acc.length < 8796093022208 := by omega
    have w1 : wrap64 (i + 1) = i + 1 := wrap_id (by omega) (by omega)
    refine ⟨L, s', Ev.step (f := fun k => (pilemake_Stream_RightSite.f k l s).bind fun bt186 => (pilemake_Stream_Pick.f l bt186.2.2 [4, 4, 6, 6, 6, 2]).bind fun bt192 => (pileref1_LocatorFor.f k bt186.1 bt186.2.1 bt192.1).bind fun t194 => if acc.length < 8796093022208 then pilemake_Stream_LocatorList.l0 k (acc ++ [t194]) m (i + 1) l bt192.2 else none) (fun k => ?_) (Ev.bind e1 ?_), p1, by omega, by omega⟩
    · simp only [pilemake_Stream_LocatorList.l0, w1]
      rw [if_pos (by omega)]
    · simp only [e2, Option.bind_some]
      refine Ev.bind e3 ?_
      simp only [if_pos z]
      exact h
theorem LocatorList_spec (l : List Int) (s n : Int) (hn : 0 ≤ n ∧ n ≤ 100) (h0 : 0 ≤ s) (h1 : s ≤ 4611686018426000000) (hl : l.length ≤ 140737488351232) : ∃ (L : List ByteArray) (s' : Int), Ev (fun k => pilemake_Stream_LocatorList.f k l s n) (L, s') ∧ L.length ≤ 101 ∧ s ≤ s' ∧ s' ≤ s + 10200 := by
  obtain ⟨m, e1, m0, m1⟩ := Range_spec l s 0 n (by omega) (by omega) (by omega) (by omega) hn.1 hl
  obtain ⟨L, s', h, p1, p2, p3⟩ := LocatorList_loop l hl m (by omega) m.toNat 0 (s + 1) [] (by omega) (by omega) (by simp) (by omega) (by omega)
  refine ⟨L, s', ?_, p1, by omega, by omega⟩
  simp only [pilemake_Stream_LocatorList.f, e1, Option.bind_some]
  exact h
end Go.Proofs.Ytonnpocamipbiaa.PPlacesApart
