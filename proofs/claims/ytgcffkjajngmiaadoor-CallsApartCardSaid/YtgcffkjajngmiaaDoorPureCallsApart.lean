/- The plain law: the Lean functions answer true for every list. -/
import Derived.Test.YtgcffkjajngmiaaDoorXCallsApart
import Derived.KernelRfl
import Derived.Lib.SlTrimSet
import Derived.Lib.IndexAny
import Derived.Lib.IndexMore
set_option linter.unusedVariables false
set_option linter.unusedSimpArgs false
/-! Plain laws that all statements use: numbers that don't wrap, functions with fuel, loops over lists, the stream's draws. -/
namespace Go.EV.Pure
open Go Go.EV Go.RowKit
theorem wrap_id {e : Int} (h1 : -9223372036854775808 ≤ e) (h2 : e ≤ 9223372036854775807) : wrap64 e = e := by
  unfold wrap64
  omega
theorem rdE_mem {α : Type} (E : Enc α) (l : List α) (i : Int) (h0 : 0 ≤ i) (h1 : i < l.length) : rdE E l i ∈ l := by
  have h : i.toNat < l.length := by omega
  have : rdE E l i = l[i.toNat] := by simp [rdE, List.getD, List.getElem?_eq_getElem h]
  rw [this]
  exact List.getElem_mem h
theorem wrap_succ {i : Nat} (h : i ≤ 1000000000000000) : wrap64 ((i : Int) + 1) = ((i + 1 : Nat) : Int) := by rw [wrap_id (by omega) (by omega)]; omega

/-- From some fuel on the function answers v. -/
def Ev {α : Type} (f : Nat → Option α) (v : α) : Prop := ∃ K, ∀ k, K ≤ k → f k = some v
section
variable {α β : Type}
theorem Ev.now (v : α) : Ev (fun _ => some v) v := ⟨0, fun _ _ => rfl⟩
theorem Ev.of {f : Nat → Option α} {v : α} (h : ∀ k, f k = some v) : Ev f v := ⟨0, fun k _ => h k⟩
theorem Ev.from {f : Nat → Option α} {v : α} (n : Nat) (h : ∀ k, f (k + n) = some v) : Ev f v := ⟨n, fun k hk => by
  obtain ⟨m, rfl⟩ : ∃ m, k = m + n := ⟨k - n, by omega⟩
  exact h m⟩
theorem Ev.bind {f : Nat → Option α} {a : α} {g : Nat → α → Option β} {v : β} (h : Ev f a) (h2 : Ev (fun k => g k a) v) : Ev (fun k => (f k).bind (g k)) v := by
  obtain ⟨K, h⟩ := h
  obtain ⟨K2, h2⟩ := h2
  exact ⟨max K K2, fun k hk => by show (f k).bind (g k) = some v; rw [h k (by omega)]; exact h2 k (by omega)⟩
theorem Ev.step {g f : Nat → Option α} {v : α} (h : ∀ k, g (k + 1) = f k) (h2 : Ev f v) : Ev g v := by
  obtain ⟨K, h2⟩ := h2
  exact ⟨K + 1, fun k hk => by
    obtain ⟨m, rfl⟩ : ∃ m, k = m + 1 := ⟨k - 1, by omega⟩
    rw [h m]; exact h2 m (by omega)⟩
theorem Ev.succ {g : Nat → Option α} {v : α} (h : Ev (fun k => g (k + 1)) v) : Ev g v := Ev.step (fun _ => rfl) h
theorem Ev.congr {f g : Nat → Option α} {v : α} (h : ∀ k, f k = g k) (h2 : Ev g v) : Ev f v := by
  obtain ⟨K, h2⟩ := h2
  exact ⟨K, fun k hk => (h k).trans (h2 k hk)⟩
theorem Ev.ex {f : Nat → Option α} {v : α} (h : Ev f v) : ∃ k, f k = some v := let ⟨K, h⟩ := h; ⟨K, h K (Nat.le_refl _)⟩
theorem Ev.ite {p : Prop} [Decidable p] {f g : Nat → Option α} {v : α} (h1 : p → Ev f v) (h2 : ¬ p → Ev g v) : Ev (fun k => if p then f k else g k) v := by
  by_cases c : p
  · simp only [if_pos c]; exact h1 c
  · simp only [if_neg c]; exact h2 c
theorem Ev.pos {p : Prop} [Decidable p] {f g : Nat → Option α} {v : α} (c : p) (h1 : Ev f v) : Ev (fun k => if p then f k else g k) v := by simp only [if_pos c]; exact h1
theorem Ev.neg {p : Prop} [Decidable p] {f g : Nat → Option α} {v : α} (c : ¬ p) (h1 : Ev g v) : Ev (fun k => if p then f k else g k) v := by simp only [if_neg c]; exact h1

/-- A loop over a list by its index: what holds of its state carries over each round, or the round is the last one. -/
theorem loop {σ ρ : Type} (l : List α) (F : Nat → Int → σ → Option ρ) (I : Nat → σ → Prop) (post : ρ → Prop)
    (hstep : ∀ (i : Nat) (s : σ), i < l.length → I i s → (∃ s', I (i + 1) s' ∧ ∀ v, Ev (fun k => F k ((i + 1 : Nat) : Int) s') v → Ev (fun k => F k (i : Int) s) v) ∨ ∃ v, post v ∧ Ev (fun k => F k (i : Int) s) v)
    (hend : ∀ s, I l.length s → ∃ v, post v ∧ Ev (fun k => F k (l.length : Int) s) v) :
    ∀ (i : Nat) (s : σ), i ≤ l.length → I i s → ∃ v, post v ∧ Ev (fun k => F k (i : Int) s) v := by
  intro i
  generalize hd : l.length - i = d
  induction d generalizing i with
  | zero =>
    intro s hi hI
    obtain rfl : i = l.length := by omega
    exact hend s hI
  | succ d ih =>
    intro s hi hI
    rcases hstep i s (by omega) hI with ⟨s', h1, h2⟩ | h
    · obtain ⟨v, h3, h4⟩ := ih (i + 1) (by omega) s' (by omega) h1
      exact ⟨v, h3, h2 v h4⟩
    · exact h
end
end Go.EV.Pure
namespace Go.EV.Pure
open Go Go.EV Go.RowKit
set_option linter.unusedSimpArgs false
/-! Strings as lists of bytes. -/
def mk (p : List UInt8) : ByteArray := ⟨p.toArray⟩
theorem mk_data (p : List UInt8) : (mk p).data.toList = p := by simp [mk]
theorem mk_size (p : List UInt8) : (mk p).size = p.length := by simp [mk, ByteArray.size]
theorem mk_of (s : ByteArray) : s = mk s.data.toList := by
  apply ByteArray.ext
  simp [mk]
theorem mk_inj {p q : List UInt8} : mk p = mk q ↔ p = q := ⟨fun h => by have := congrArg (fun s => s.data.toList) h; simpa [mk] using this, fun h => h ▸ rfl⟩
theorem mk_extract (p : List UInt8) (i j : Nat) : (mk p).extract i j = mk ((p.take j).drop i) := by
  apply ByteArray.ext
  simp only [mk, ByteArray.data_extract]
  apply Array.ext'
  simp [List.extract_eq_take_drop, List.drop_take]
theorem mk_bt (p : List UInt8) (i : Nat) (h : i < p.length) : bt (mk p) (i : Int) = (p[i].toNat : Int) := by
  unfold bt
  have hs : (Int.toNat (i : Int)) < (mk p).size := by simpa [mk_size] using h
  rw [dif_pos hs]
  have : (mk p)[Int.toNat (i : Int)]'hs = p[i] := by
    show (p.toArray)[Int.toNat (i : Int)]'_ = _
    simp only [Int.toNat_natCast, List.getElem_toArray]
    rfl
  rw [this]
  rfl
theorem mk_ascii (p : List UInt8) : asciiT (mk p) = p.all fun b => decide (b.toNat < 128) := by unfold asciiT; rw [mk_data]
theorem trimS_nil (l cs : List UInt8) : Lib.trimS l cs = [] ↔ ∀ b ∈ l, cs.contains b = true := by
  unfold Lib.trimS Lib.trimLeftS Lib.trimRightS
  have key0 : ∀ r : List UInt8, r.dropWhile (cs.contains ·) = [] ↔ ∀ x ∈ r, cs.contains x = true := by
    intro r
    induction r with
    | nil => simp
    | cons a r ih =>
      by_cases c : cs.contains a = true
      · rw [List.dropWhile_cons_of_pos c, ih]
        constructor
        · intro h x hx
          rcases List.mem_cons.1 hx with rfl | hx
          · exact c
          · exact h x hx
        · intro h x hx
          exact h x (by simp [hx])
      · rw [List.dropWhile_cons_of_neg c]
        constructor
        · intro h; cases h
        · intro h; exact absurd (h a (by simp)) c
  rw [key0]
  constructor
  · intro h b hb
    have key : ∀ r : List UInt8, (∀ x ∈ (r.dropWhile (cs.contains ·)), cs.contains x = true) → ∀ x ∈ r, cs.contains x = true := by
      intro r
      induction r with
      | nil => intro _ x hx; cases hx
      | cons a r ih =>
        intro h x hx
        by_cases c : cs.contains a = true
        · rw [List.dropWhile_cons_of_pos c] at h
          rcases List.mem_cons.1 hx with rfl | hx
          · exact c
          · exact ih h x hx
        · rw [List.dropWhile_cons_of_neg c] at h
          exact h x hx
    exact key l.reverse (fun x hx => h x (by simpa using hx)) b (by simpa using hb)
  · intro h x hx
    have hx : x ∈ l.reverse.dropWhile (cs.contains ·) := by simpa using hx
    exact h x (by simpa using (List.dropWhile_sublist _).subset hx)
theorem all_bytes {P : UInt8 → Prop} (h : ∀ n : Fin 256, P (UInt8.ofNat n.val)) (b : UInt8) : P b := by
  have := h ⟨b.toNat, UInt8.toNat_lt b⟩
  simpa using this
end Go.EV.Pure
namespace Go.EV.Pure
open Go Go.EV Go.RowKit
theorem Below_j (x : Int) : Ev (fun k => pilemake_Below.j6 k x) x := Ev.from 1 fun k => rfl
theorem Below_spec (x n : Int) (hn : n ≤ 9223372036854775807) : ∃ r, Ev (fun k => pilemake_Below.f k x n) r ∧ 0 ≤ r ∧ (1 ≤ n → r < n) ∧ (n < 1 → r = 0) := by
  unfold pilemake_Below.f
  by_cases h : n < 1
  · simp only [if_pos h]
    exact ⟨0, Ev.now _, by omega, by omega, fun _ => rfl⟩
  · simp only [if_neg h, if_neg (show ¬ n = 0 by omega)]
    have hm := Int.natAbs_tmod x n
    have hm2 := Nat.mod_lt x.natAbs (show n.natAbs > 0 by omega)
    have h1 : x.tmod n < n := by omega
    have h2 : -n < x.tmod n := by omega
    by_cases h3 : x.tmod n < 0
    · simp only [if_pos h3]
      refine ⟨_, Below_j _, ?_, ?_, ?_⟩ <;> rw [wrap_id (by omega) (by omega)] <;> omega
    · simp only [if_neg h3]
      exact ⟨_, Below_j _, by omega, by omega, by omega⟩
theorem Next_spec (l : List Int) (s n : Int) (h0 : 0 ≤ s) (h1 : s ≤ 4611686018427387904) (hn : n ≤ 9223372036854775807) (hl : l.length ≤ 140737488351232) :
    ∃ r, Ev (fun k => pilemake_Stream_Next.f k l s n) (r, l, s + 1) ∧ 0 ≤ r ∧ (1 ≤ n → r < n) := by
  unfold pilemake_Stream_Next.f
  have hs : wrap64 (s + 1) = s + 1 := wrap_id (by omega) (by omega)
  have hs2 : wrap64 (s + 1 - 1) = s := by rw [wrap_id (by omega) (by omega)]; omega
  simp only [hs, hs2]
  by_cases h : (l.length : Int) = 0
  · simp only [if_pos h]
    obtain ⟨r, hr, r0, r1, _⟩ := Below_spec (wrap64 ((s + 1) * 7919)) n hn
    exact ⟨r, Ev.bind hr (Ev.now _), r0, r1⟩
  · have e : Int.tmod s (l.length : Int) = s % (l.length : Int) := Int.tmod_eq_emod_of_nonneg h0
    have m0 : 0 ≤ s % (l.length : Int) := Int.emod_nonneg _ h
    have m1 : s % (l.length : Int) < (l.length : Int) := Int.emod_lt_of_pos _ (by omega)
    simp only [if_neg h, e, if_pos m0, if_pos m1]
    obtain ⟨a, ha, _⟩ := Below_spec (rd l (s % (l.length : Int))) 1073741824 (by omega)
    obtain ⟨r, hr, r0, r1, _⟩ := Below_spec (wrap64 (a + wrap64 (wrap64 (Int.tdiv s (l.length : Int)) * wrap64 (7919 + s % (l.length : Int))))) n hn
    exact ⟨r, Ev.bind ha (Ev.bind hr (Ev.now _)), r0, r1⟩
theorem Flip_spec (l : List Int) (s n : Int) (h0 : 0 ≤ s) (h1 : s ≤ 4611686018427387904) (hn : n ≤ 9223372036854775807) (hl : l.length ≤ 140737488351232) :
    ∃ b, Ev (fun k => pilemake_Stream_Flip.f k l s n) (b, l, s + 1) := by
  obtain ⟨r, hr, _⟩ := Next_spec l s n h0 h1 hn hl
  exact ⟨decide (r = 0), Ev.bind hr (Ev.now _)⟩
end Go.EV.Pure
namespace Go.EV.Pure
open Go Go.EV Go.RowKit
set_option linter.unusedSimpArgs false
set_option maxRecDepth 100000
/-! Call signs: the program's parts and the document's parts are the same. -/
def isL (b : UInt8) : Bool := decide (97 ≤ b.toNat ∧ b.toNat ≤ 122)
def isD (b : UInt8) : Bool := decide (48 ≤ b.toNat ∧ b.toNat ≤ 57)
def AN (p : List UInt8) : Bool := p.all fun b => isL b || isD b
def nL (p : List UInt8) : Nat := p.countP isL
def digL : List UInt8 := [48, 49, 50, 51, 52, 53, 54, 55, 56, 57]
def smaL : List UInt8 := [97, 98, 99, 100, 101, 102, 103, 104, 105, 106, 107, 108, 109, 110, 111, 112, 113, 114, 115, 116, 117, 118, 119, 120, 121, 122]
theorem has_dig : ∀ b : UInt8, digL.contains b = isD b := all_bytes (by decide +kernel)
theorem has_sma : ∀ b : UInt8, smaL.contains b = isL b := all_bytes (by decide +kernel)
theorem has_both : ∀ b : UInt8, (smaL ++ digL).contains b = (isL b || isD b) := all_bytes (by decide +kernel)
theorem str0_eq : str_0 = mk (smaL ++ digL) := rfl
theorem str1_eq : str_1 = mk smaL := rfl
theorem AN_ascii {p : List UInt8} (h : AN p = true) : asciiT (mk p) = true := by
  rw [mk_ascii]
  rw [AN, List.all_eq_true] at h
  rw [List.all_eq_true]
  intro b hb
  have := h b hb
  simp only [isL, isD, Bool.or_eq_true, decide_eq_true_eq] at this
  simp only [decide_eq_true_eq]
  omega
theorem indexAny_has (cs : List UInt8) : ∀ p : List UInt8, decide (Lib.indexAny p cs ≥ 0) = p.any (cs.contains ·)
  | [] => rfl
  | b :: l => by
    have ih := indexAny_has cs l
    have hg := Lib.indexAny_ge cs l
    rw [List.any_cons, ← ih, Lib.indexAny]
    by_cases c : cs.contains b = true
    · rw [if_pos c, c]; rfl
    · rw [if_neg c]
      have c : cs.contains b = false := by simpa using c
      rw [c, Bool.false_or]
      by_cases d : Lib.indexAny l cs = -1
      · rw [d]; rfl
      · have : (Lib.indexAny l cs == -1) = false := by simpa using d
        rw [this]
        simp only [Bool.false_eq_true, if_false]
        rw [decide_eq_decide]
        omega
theorem any_isL (p : List UInt8) : p.any isL = decide (0 < nL p) := by
  rw [Bool.eq_iff_iff, List.any_eq_true, decide_eq_true_eq, nL, List.countP_pos_iff]
theorem ca_eq (p : List UInt8) (hp : p.length < 4294967281) (h : asciiT (mk p) = true) : strings_ContainsAny.f (mk p) str_1 = some (decide (0 < nL p)) := by
  have hs : asciiT str_1 = true := by decide +kernel
  have hz : str_1.size < 4294967281 := by decide +kernel
  unfold strings_ContainsAny.f strings_IndexAny.f
  rw [if_pos ⟨⟨by rw [mk_size]; exact hp, hz⟩, h, hs⟩, Option.bind_some, mk_data, str1_eq, mk_data, indexAny_has, ← any_isL]
  congr 2
  funext b
  exact has_sma b
theorem in_eq (a lo hi : Int) : pileref1_in.f a lo hi = some (decide (lo ≤ a) && decide (a ≤ hi)) := by
  unfold pileref1_in.f
  by_cases c : lo ≤ a
  · rw [if_pos c]; simp [c]
  · rw [if_neg c]; simp [c]
theorem plain_eq (p : List UInt8) (lo hi : Int) (hp : p.length < 4294967281) : pileref1_plain.f (mk p) lo hi = some (decide (lo ≤ (p.length : Int)) && decide ((p.length : Int) ≤ hi) && AN p && decide (0 < nL p)) := by
  unfold pileref1_plain.f
  rw [in_eq, Option.bind_some, mk_size]
  by_cases c : (decide (lo ≤ (p.length : Int)) && decide ((p.length : Int) ≤ hi)) = true
  · rw [if_pos c, c, Bool.true_and]
    have hs : asciiT str_0 = true := by decide +kernel
    have hz : str_0.size < 4294967281 := by decide +kernel
    have ht : strings_Trim.f (mk p) str_0 = some (mk (Lib.trimS p (smaL ++ digL))) := by
      unfold strings_Trim.f
      rw [if_pos ⟨by rw [mk_size]; omega, hz, hs⟩, mk_data, str0_eq, mk_data]
      rfl
    rw [ht, Option.bind_some]
    have hn : mk (Lib.trimS p (smaL ++ digL)) = (⟨#[]⟩ : ByteArray) ↔ AN p = true := by
      have : (⟨#[]⟩ : ByteArray) = mk [] := rfl
      rw [this, mk_inj, trimS_nil, AN, List.all_eq_true]
      constructor
      · intro h b hb; rw [← has_both]; exact h b hb
      · intro h b hb; rw [has_both]; exact h b hb
    by_cases d : AN p = true
    · rw [if_pos (hn.2 d), ca_eq p hp (AN_ascii d), d]
      rfl
    · rw [if_neg (fun h => d (hn.1 h))]
      have : AN p = false := by simpa using d
      rw [this]
      rfl
  · rw [if_neg c]
    have : (decide (lo ≤ (p.length : Int)) && decide ((p.length : Int) ≤ hi)) = false := by simpa using c
    rw [this]
    rfl
theorem isL_eq (b : UInt8) : call_isLetter.f (b.toNat : Int) = some (isL b) := by
  unfold call_isLetter.f isL
  by_cases c : (b.toNat : Int) ≥ 97
  · rw [if_pos c]
    congr 1
    rw [decide_eq_decide]
    omega
  · rw [if_neg c]
    congr 1
    rw [eq_comm, decide_eq_false_iff_not]
    omega
theorem isD_eq (b : UInt8) : call_isDigit.f (b.toNat : Int) = some (isD b) := by
  unfold call_isDigit.f isD
  by_cases c : (b.toNat : Int) ≥ 48
  · rw [if_pos c]
    congr 1
    rw [decide_eq_decide]
    omega
  · rw [if_neg c]
    congr 1
    rw [eq_comm, decide_eq_false_iff_not]
    omega
theorem isPlain_ev (p : List UInt8) (hp : p.length ≤ 1000000) : Ev (fun k => call_isPlain.f k (mk p)) (if AN p = true then ((nL p : Int), true) else (0, false)) := by
  obtain ⟨v, hv, he⟩ := loop p (fun k i (x : Int) => call_isPlain.l0 k (mk p) x i)
    (fun i x => AN (p.take i) = true ∧ x = (nL (p.take i) : Int)) (fun v => v = if AN p = true then ((nL p : Int), true) else (0, false))
    (fun i x hi ⟨i1, i2⟩ => by
      have hb := mk_bt p i hi
      have hs := mk_size p
      have ht : p.take (i + 1) = p.take i ++ [p[i]] := List.take_succ_eq_append_getElem hi
      have hc : nL (p.take (i + 1)) = nL (p.take i) + (if isL p[i] = true then 1 else 0) := by
        rw [ht]; unfold nL; rw [List.countP_append, List.countP_cons, List.countP_nil]; simp
      have hle : nL (p.take i) ≤ p.length := Nat.le_trans List.countP_le_length (by simp; omega)
      have ha : AN (p.take (i + 1)) = (isL p[i] || isD p[i]) := by
        rw [ht]; unfold AN; rw [List.all_append, List.all_cons, List.all_nil]
        unfold AN at i1; rw [i1]; simp
      by_cases c : isL p[i] = true
      · refine .inl ⟨x + 1, ⟨by rw [ha, c]; rfl, by rw [hc, if_pos c, i2]; omega⟩, fun v hv => Ev.succ ?_⟩
        simp only [call_isPlain.l0, hb, hs, isL_eq, Option.bind_some]
        refine Ev.pos (by omega) (Ev.pos (by omega) (Ev.pos (by omega) (Ev.pos c (Ev.succ ?_))))
        simp only [call_isPlain.j8, wrap_succ (show i ≤ 1000000000000000 by omega), wrap_id (e := x + 1) (by omega) (by omega)]
        exact hv
      · have cf : isL p[i] = false := by simpa using c
        by_cases d : isD p[i] = true
        · refine .inl ⟨x, ⟨by rw [ha, d]; simp, by rw [hc, if_neg c, i2]; simp⟩, fun v hv => Ev.succ ?_⟩
          simp only [call_isPlain.l0, hb, hs, isL_eq, isD_eq, Option.bind_some]
          refine Ev.pos (by omega) (Ev.pos (by omega) (Ev.pos (by omega) (Ev.neg c (Ev.pos (by omega) (Ev.pos (by omega) (Ev.pos d (Ev.succ ?_)))))))
          simp only [call_isPlain.j8, wrap_succ (show i ≤ 1000000000000000 by omega)]
          exact hv
        · have df : isD p[i] = false := by simpa using d
          refine .inr ⟨(0, false), ?_, Ev.succ ?_⟩
          · rw [if_neg]
            intro h
            rw [AN, List.all_eq_true] at h
            have := h p[i] (List.getElem_mem hi)
            rw [cf, df] at this
            cases this
          · simp only [call_isPlain.l0, hb, hs, isL_eq, isD_eq, Option.bind_some]
            exact Ev.pos (by omega) (Ev.pos (by omega) (Ev.pos (by omega) (Ev.neg c (Ev.pos (by omega) (Ev.pos (by omega) (Ev.neg d (Ev.now _))))))))
    (fun x ⟨i1, i2⟩ => ⟨(x, true), by rw [List.take_length] at i1 i2; rw [if_pos i1, i2], Ev.step (f := fun _ => some _) (fun k => by simp only [call_isPlain.l0, mk_size]; rw [if_neg (by omega)]) (Ev.now _)⟩)
    0 0 (by omega) ⟨by simp [AN], by simp [nL]⟩
  rw [hv] at he
  exact he
/-- The place of the last digit; -1: there is none. -/
def LastD (p : List UInt8) (r : Int) : Prop := -1 ≤ r ∧ r < p.length ∧ (∀ (j : Nat) (h : j < p.length), r < (j : Int) → isD p[j] = false) ∧ (∀ (h : r.toNat < p.length), 0 ≤ r → isD p[r.toNat] = true)
def digB : ByteArray := ⟨#[48, 49, 50, 51, 52, 53, 54, 55, 56, 57]⟩
theorem digB_eq : digB = mk digL := rfl
theorem ascii_at {p : List UInt8} (h : asciiT (mk p) = true) (i : Nat) (hi : i < p.length) : p[i].toNat < 128 := by
  rw [mk_ascii, List.all_eq_true] at h
  simpa using h p[i] (List.getElem_mem hi)
theorem LastD_hit {p : List UInt8} {n : Nat} (hn : n < p.length) (hd : isD p[n] = true) (h : ∀ (j : Nat) (h : j < p.length), n < j → isD p[j] = false) : LastD p (n : Int) :=
  ⟨by omega, by omega, fun j hj hjn => h j hj (by omega), fun _ _ => by simpa using hd⟩
theorem LastD_none {p : List UInt8} (h : ∀ (j : Nat) (h : j < p.length), isD p[j] = false) : LastD p (-1) :=
  ⟨by omega, by omega, fun j hj _ => h j hj, fun _ h => absurd h (by omega)⟩
theorem downTo {p : List UInt8} (F : Nat → Nat → Option Int)
    (h0 : ∀ v, v = (-1 : Int) → Ev (fun k => F k 0) v)
    (hs : ∀ (n : Nat) (hn : n < p.length), (isD p[n] = true → Ev (fun k => F k (n + 1)) (n : Int)) ∧ (isD p[n] = false → ∀ v, Ev (fun k => F k n) v → Ev (fun k => F k (n + 1)) v)) :
    ∀ n, n ≤ p.length → (∀ (j : Nat) (h : j < p.length), n ≤ j → isD p[j] = false) → ∃ r, Ev (fun k => F k n) r ∧ LastD p r := by
  intro n
  induction n with
  | zero => intro _ h; exact ⟨-1, h0 _ rfl, LastD_none fun j hj => h j hj (by omega)⟩
  | succ n ih =>
    intro hn h
    obtain ⟨h1, h2⟩ := hs n (by omega)
    by_cases c : isD p[n] = true
    · exact ⟨n, h1 c, LastD_hit (by omega) c fun j hj hjn => h j hj (by omega)⟩
    · have c : isD p[n] = false := by simpa using c
      obtain ⟨r, hr, hl⟩ := ih (by omega) (fun j hj hjn => by
        by_cases e : j = n
        · subst e; exact c
        · exact h j hj (by omega))
      exact ⟨r, h2 c r hr, hl⟩
theorem indexByte_dig : ∀ b : UInt8, decide (Lib.indexByte digL b ≥ 0) = isD b := all_bytes (by decide +kernel)
theorem ir_eq (b : UInt8) (h : b.toNat < 128) : strings_IndexRune.f digB (b.toNat : Int) = some (Lib.indexByte digL b) := by
  unfold strings_IndexRune.f
  rw [if_pos (by omega), digB_eq, mk_data]
  congr 2
  simp
theorem i32_wrap (b : UInt8) : IntKind.i32.wrap (b.toNat : Int) = (b.toNat : Int) := by
  have : ∀ b : UInt8, IntKind.i32.wrap (b.toNat : Int) = (b.toNat : Int) := all_bytes (by decide +kernel)
  exact this b
theorem dlr_eq (p : List UInt8) (n : Nat) (hn : n < p.length) (hp : p.length ≤ 1000000) (h : p[n].toNat < 128) (k : Nat) : unicode_utf8_DecodeLastRuneInString.f k (mk (p.take (n + 1))) = some ((p[n].toNat : Int), 1) := by
  have hs : ((mk (p.take (n + 1))).size : Int) = ((n + 1 : Nat) : Int) := by rw [mk_size, List.length_take]; congr 1; omega
  have hl : n < (p.take (n + 1)).length := by rw [List.length_take]; omega
  have hb : bt (mk (p.take (n + 1))) (n : Int) = (p[n].toNat : Int) := by rw [mk_bt _ n hl]; simp
  have hw : wrap64 (((n + 1 : Nat) : Int) - 1) = (n : Int) := by rw [wrap_id (by omega) (by omega)]; omega
  unfold unicode_utf8_DecodeLastRuneInString.f
  rw [hs, hw, hb, i32_wrap, if_neg (by omega), if_pos (by omega), if_pos (by omega), if_pos (by omega)]
theorem lia_ev (p : List UInt8) (h : asciiT (mk p) = true) (hp : p.length ≤ 1000000) : ∃ r : Int, Ev (fun k => strings_LastIndexAny.f k (mk p) digB) r ∧ LastD p r := by
  have hsz := mk_size p
  have hd0 : ¬ digB = (⟨#[]⟩ : ByteArray) := by decide +kernel
  have hdz : (digB.size : Int) = 10 := rfl
  by_cases c : 8 < p.length
  · have hm : sMake.f digB = some digB := by
      unfold sMake.f
      rw [if_pos ⟨by decide +kernel, by decide +kernel⟩]
    obtain ⟨r, hr, hl⟩ := downTo (p := p) (fun k n => sLast.l9 k (mk p) digB ((n : Int) - 1))
      (fun v hv => by subst hv; exact Ev.step (f := fun _ => some _) (fun k => by simp only [sLast.l9]; rw [if_neg (by omega)]) (Ev.now _))
      (fun n hn => by
        have hb := mk_bt p n hn
        have ha := ascii_at h n hn
        have e1 : ((n + 1 : Nat) : Int) - 1 = (n : Int) := by omega
        have hh : sHas.f digB (p[n].toNat : Int) = some (isD p[n]) := by
          unfold sHas.f
          rw [if_pos (by omega), digB_eq, mk_data, ← has_dig]
          congr 2
          simp
        constructor
        · intro hd
          refine Ev.succ ?_
          simp only [sLast.l9, e1, hb, hsz, hh, Option.bind_some]
          exact Ev.pos (by omega) (Ev.pos (by omega) (Ev.pos (by omega) (Ev.pos hd (Ev.now _))))
        · intro hd v hv
          refine Ev.succ ?_
          simp only [sLast.l9, e1, hb, hsz, hh, Option.bind_some, wrap_id (e := (n : Int) - 1) (by omega) (by omega)]
          exact Ev.pos (by omega) (Ev.pos (by omega) (Ev.pos (by omega) (Ev.neg (by rw [hd]; simp) hv))))
      p.length (Nat.le_refl _) (fun j hj hjn => absurd hj (by omega))
    refine ⟨r, ?_, hl⟩
    unfold strings_LastIndexAny.f sLast.f strings_shouldUseASCIISet.f
    simp only [hm, Option.bind_some, hsz, wrap_id (e := (p.length : Int) - 1) (by omega) (by omega)]
    exact Ev.pos (by omega) (Ev.neg hd0 (Ev.neg (by omega) (Ev.pos (by simp; omega) hr)))
  · obtain ⟨r, hr, hl⟩ := downTo (p := p) (fun k n => strings_LastIndexAny_s.l2 k (mk p) digB (n : Int))
      (fun v hv => by subst hv; exact Ev.step (f := fun _ => some _) (fun k => by simp only [strings_LastIndexAny_s.l2]; rw [if_neg (by omega)]) (Ev.now _))
      (fun n hn => by
        have ha := ascii_at h n hn
        have e1 : wrap64 (((n + 1 : Nat) : Int) - 1) = (n : Int) := by rw [wrap_id (by omega) (by omega)]; omega
        have e2 : (mk p).extract 0 (((n + 1 : Nat) : Int)).toNat = mk (p.take (n + 1)) := by rw [mk_extract]; simp
        have hi := indexByte_dig p[n]
        constructor
        · intro hd
          refine Ev.succ ?_
          simp only [strings_LastIndexAny_s.l2, e2, dlr_eq p n hn hp ha, ir_eq _ ha, hsz, Option.bind_some, e1]
          exact Ev.pos (by omega) (Ev.pos (by omega) (Ev.pos (by omega) (Ev.pos (by rw [hd] at hi; simpa using hi) (Ev.now _))))
        · intro hd v hv
          refine Ev.succ ?_
          simp only [strings_LastIndexAny_s.l2, e2, dlr_eq p n hn hp ha, ir_eq _ ha, hsz, Option.bind_some, e1]
          exact Ev.pos (by omega) (Ev.pos (by omega) (Ev.pos (by omega) (Ev.neg (by rw [hd] at hi; simpa using hi) hv))))
      p.length (Nat.le_refl _) (fun j hj hjn => absurd hj (by omega))
    by_cases c1 : p.length = 1
    · have ha := ascii_at h 0 (by omega)
      have hb := mk_bt p 0 (by omega)
      have hi := indexByte_dig p[0]
      have e0 : ((0 : Nat) : Int) = 0 := rfl
      rw [e0] at hb
      have hj : Ev (fun k => strings_LastIndexAny_s.j7 k digB (p[0].toNat : Int)) (if isD p[0] = true then 0 else -1) := by
        refine Ev.step (f := fun _ => some _) (fun k => ?_) (Ev.now _)
        simp only [strings_LastIndexAny_s.j7, ir_eq _ ha, Option.bind_some]
        by_cases d : isD p[0] = true
        · rw [if_pos d, if_pos (by rw [d] at hi; simpa using hi)]
        · rw [if_neg d, if_neg (by have d : isD p[0] = false := by simpa using d
                                   rw [d] at hi; simpa using hi)]
      refine ⟨if isD p[0] = true then 0 else -1, ?_, ?_⟩
      · unfold strings_LastIndexAny.f strings_LastIndexAny_s.f strings_shouldUseASCIISet.f
        simp only [hsz, hb, i32_wrap]
        exact Ev.neg (by omega) (Ev.neg hd0 (Ev.pos (by omega) (Ev.pos (by omega) (Ev.neg (by omega) hj))))
      · by_cases d : isD p[0] = true
        · rw [if_pos d]
          exact LastD_hit (n := 0) (by omega) d fun j hj hjn => absurd hj (by omega)
        · rw [if_neg d]
          refine LastD_none fun j hj => ?_
          have : j = 0 := by omega
          subst this
          simpa using d
    · refine ⟨r, ?_, hl⟩
      have hj : Ev (fun k => strings_LastIndexAny_s.j19 k (mk p) digB) r := by
        refine Ev.succ ?_
        simp only [strings_LastIndexAny_s.j19, hdz, hsz]
        exact Ev.neg (by decide) hr
      unfold strings_LastIndexAny.f strings_LastIndexAny_s.f strings_shouldUseASCIISet.f
      simp only [hsz, Option.bind_some]
      exact Ev.neg (by omega) (Ev.neg hd0 (Ev.neg (by omega) (Ev.neg (by simp; omega) hj)))
noncomputable def lastD (p : List UInt8) : Int := Classical.epsilon fun r : Int => Ev (fun k => strings_LastIndexAny.f k (mk p) digB) r ∧ LastD p r
theorem lastD_spec (p : List UInt8) (h : asciiT (mk p) = true) (hp : p.length ≤ 1000000) : Ev (fun k => strings_LastIndexAny.f k (mk p) digB) (lastD p) ∧ LastD p (lastD p) :=
  Classical.epsilon_spec (p := fun r : Int => Ev (fun k => strings_LastIndexAny.f k (mk p) digB) r ∧ LastD p r) (lia_ev p h hp)
end Go.EV.Pure
namespace Go.EV.Pure
open Go Go.EV Go.RowKit
set_option linter.unusedSimpArgs false
set_option maxRecDepth 100000
abbrev PT6 := ByteArray × ByteArray × ByteArray × Int × ByteArray × Bool
def eB : ByteArray := ⟨#[]⟩
def noT : PT6 := (eB, eB, eB, 0, eB, false)
noncomputable def isBase (p : List UInt8) : Bool := AN p && decide (p.length ≤ 10) && decide (1 ≤ lastD p ∧ lastD p ≤ 3) && decide (1 ≤ (p.length : Int) - lastD p - 1 ∧ (p.length : Int) - lastD p - 1 ≤ 4) && decide (0 < nL (p.take (lastD p).toNat))
def beginB (p : List UInt8) : Bool := AN p && decide (0 < nL p) && decide (p.length ≤ 4)
theorem AN_take {p : List UInt8} (h : AN p = true) (n : Nat) : AN (p.take n) = true := by
  rw [AN, List.all_eq_true] at h ⊢
  exact fun b hb => h b (List.mem_of_mem_take hb)
theorem ascii_sub {p q : List UInt8} (h : asciiT (mk p) = true) (hq : ∀ b ∈ q, b ∈ p) : asciiT (mk q) = true := by
  rw [mk_ascii, List.all_eq_true] at h ⊢
  exact fun b hb => h b (hq b hb)
theorem begin_eq (p : List UInt8) (hp : p.length ≤ 1000000) : pileref1_begin.f (mk p) = some (beginB p) := by
  unfold pileref1_begin.f
  rw [plain_eq p 1 4 (by omega), Option.bind_some]
  congr 1
  unfold beginB
  have hn : nL p ≤ p.length := List.countP_le_length
  rw [Bool.eq_iff_iff]
  simp only [Bool.and_eq_true, decide_eq_true_eq]
  constructor
  · rintro ⟨⟨⟨h1, h2⟩, h3⟩, h4⟩; exact ⟨⟨h3, h4⟩, by omega⟩
  · rintro ⟨⟨h3, h4⟩, h2⟩; exact ⟨⟨⟨by omega, by omega⟩, h3⟩, h4⟩
theorem isBegin_ev (p : List UInt8) (hp : p.length ≤ 1000000) : Ev (fun k => call_isBegin.f k (mk p)) (beginB p) := by
  unfold call_isBegin.f beginB
  have e1 := isPlain_ev p hp
  refine Ev.bind e1 ?_
  by_cases c : AN p = true
  · have hq : (if AN p = true then ((nL p : Int), true) else (0, false)) = ((nL p : Int), true) := if_pos c
    rw [hq]
    simp only [c, Bool.true_and, mk_size]
    by_cases d : 0 < nL p
    · have : decide ((p.length : Int) ≤ 4) = (decide (0 < nL p) && decide (p.length ≤ 4)) := by rw [decide_eq_true d, Bool.true_and, decide_eq_decide]; omega
      rw [← this]
      exact Ev.pos trivial (Ev.pos (by omega) (Ev.now _))
    · rw [decide_eq_false d]
      exact Ev.pos trivial (Ev.neg (by omega) (Ev.now _))
  · have cf : AN p = false := by simpa using c
    have hq : (if AN p = true then ((nL p : Int), true) else (0, false)) = ((0 : Int), false) := if_neg c
    rw [hq]
    simp only [cf, Bool.false_and]
    exact Ev.neg (by simp) (Ev.now _)
theorem split_ev (p : List UInt8) (hp : p.length ≤ 1000000) : ∃ d, Ev (fun k => call_split.f k (mk p)) (d, isBase p) ∧ (isBase p = true → d = lastD p) := by
  unfold call_split.f
  by_cases c : AN p = true
  · have e1 := isPlain_ev p hp
    rw [if_pos c] at e1
    obtain ⟨e2, l1, l2, l3, l4⟩ := lastD_spec p (AN_ascii c) hp
    have hsz := mk_size p
    have no : ∀ d : Int, isBase p = false → Ev (fun k => (some (0, false) : Option (Int × Bool))) (0, isBase p) := fun d h => by rw [h]; exact Ev.now _
    have ib : isBase p = (decide (p.length ≤ 10) && decide (1 ≤ lastD p ∧ lastD p ≤ 3) && decide (1 ≤ (p.length : Int) - lastD p - 1 ∧ (p.length : Int) - lastD p - 1 ≤ 4) && decide (0 < nL (p.take (lastD p).toNat))) := by unfold isBase; rw [c, Bool.true_and]
    have w1 : wrap64 (wrap64 ((p.length : Int) - lastD p) - 1) = (p.length : Int) - lastD p - 1 := by rw [wrap_id (e := (p.length : Int) - lastD p) (by omega) (by omega), wrap_id (by omega) (by omega)]
    by_cases c1 : p.length ≤ 10
    · by_cases c2 : 1 ≤ lastD p ∧ lastD p ≤ 3
      · by_cases c3 : 1 ≤ (p.length : Int) - lastD p - 1 ∧ (p.length : Int) - lastD p - 1 ≤ 4
        · refine ⟨lastD p, ?_, fun _ => rfl⟩
          have e3 := isPlain_ev (p.take (lastD p).toNat) (by simp; omega)
          rw [if_pos (AN_take c _)] at e3
          rw [ib, decide_eq_true c1, decide_eq_true c2, decide_eq_true c3, Bool.true_and, Bool.true_and, Bool.true_and]
          have e4 : decide (((nL (p.take (lastD p).toNat) : Nat) : Int) > 0) = decide (0 < nL (p.take (lastD p).toNat)) := by rw [decide_eq_decide]; omega
          refine Ev.bind e1 (Ev.pos rfl (Ev.neg (by rw [hsz]; omega) (Ev.bind e2 (Ev.neg (by omega) (Ev.neg (by omega) ?_)))))
          simp only [hsz, w1, mk_extract, List.drop_zero]
          refine Ev.neg (by omega) (Ev.neg (by omega) (Ev.pos (by omega) (Ev.pos (by omega) (Ev.bind e3 ?_))))
          simp only [e4]
          exact Ev.now _
        · have ibf : isBase p = false := by rw [ib, decide_eq_false c3]; simp
          refine ⟨0, ?_, fun h => by rw [ibf] at h; cases h⟩
          refine Ev.bind e1 (Ev.pos rfl (Ev.neg (by rw [hsz]; omega) (Ev.bind e2 (Ev.neg (by omega) (Ev.neg (by omega) ?_)))))
          simp only [hsz, w1]
          by_cases c4 : (p.length : Int) - lastD p - 1 < 1
          · exact Ev.pos c4 (no 0 ibf)
          · exact Ev.neg c4 (Ev.pos (by omega) (no 0 ibf))
      · have ibf : isBase p = false := by rw [ib, decide_eq_false c2]; simp
        refine ⟨0, ?_, fun h => by rw [ibf] at h; cases h⟩
        refine Ev.bind e1 (Ev.pos rfl (Ev.neg (by rw [hsz]; omega) (Ev.bind e2 ?_)))
        by_cases c4 : lastD p < 1
        · exact Ev.pos c4 (no 0 ibf)
        · exact Ev.neg c4 (Ev.pos (by omega) (no 0 ibf))
    · have ibf : isBase p = false := by rw [ib, decide_eq_false c1]; simp
      refine ⟨0, ?_, fun h => by rw [ibf] at h; cases h⟩
      exact Ev.bind e1 (Ev.pos rfl (Ev.pos (by rw [hsz]; omega) (no 0 ibf)))
  · have cf : AN p = false := by simpa using c
    have ibf : isBase p = false := by unfold isBase; rw [cf]; simp
    have e1 := isPlain_ev p hp
    rw [if_neg c] at e1
    refine ⟨0, ?_, fun h => by rw [ibf] at h; cases h⟩
    rw [ibf]
    exact Ev.bind e1 (Ev.neg (by simp) (Ev.now _))
theorem base_bd {p : List UInt8} (h : isBase p = true) : AN p = true ∧ 1 ≤ lastD p ∧ lastD p ≤ 3 ∧ 1 ≤ (p.length : Int) - lastD p - 1 ∧ p.length ≤ 10 := by
  unfold isBase at h
  simp only [Bool.and_eq_true, decide_eq_true_eq] at h
  obtain ⟨⟨⟨⟨h1, h2⟩, h3⟩, h4⟩, h5⟩ := h
  exact ⟨h1, by omega, by omega, by omega, h2⟩
/-- The parts of a base call. -/
noncomputable def baseT (p : List UInt8) (kind : Int) (added : ByteArray) : PT6 := (mk p, mk (p.take (lastD p + 1).toNat), mk (p.drop (lastD p + 1).toNat), kind, added, true)
theorem based_ev (p : List UInt8) (hp : p.length ≤ 1000000) : Ev (fun k => call_based.f k (mk p)) (if isBase p = true then baseT p 0 eB else noT) := by
  obtain ⟨d, e1, h1⟩ := split_ev p hp
  unfold call_based.f
  refine Ev.bind e1 ?_
  by_cases c : isBase p = true
  · obtain ⟨b1, b2, b3, b4, b5⟩ := base_bd c
    obtain rfl := h1 c
    have hsz := mk_size p
    have hq : (if isBase p = true then baseT p 0 eB else noT) = baseT p 0 eB := if_pos c
    rw [hq]
    simp only [hsz, mk_extract, List.drop_zero, wrap_id (e := lastD p + 1) (by omega) (by omega), Int.toNat_natCast, List.take_length]
    exact Ev.pos c (Ev.pos (by omega) (Ev.pos (by omega) (Ev.pos (by omega) (Ev.pos (by omega) (Ev.now _)))))
  · have hq : (if isBase p = true then baseT p 0 eB else noT) = noT := if_neg c
    rw [hq]
    exact Ev.neg c (Ev.now _)
theorem baseAt_ev (p : List UInt8) (h : asciiT (mk p) = true) (hp : p.length ≤ 1000000) : Ev (fun k => pileref1_baseAt.f k (mk p)) (if isBase p = true then lastD p else -1) := by
  obtain ⟨e2, l1, l2, l3, l4⟩ := lastD_spec p h hp
  have hsz := mk_size p
  have e3 := plain_eq p 3 10 (by omega)
  unfold pileref1_baseAt.f
  refine Ev.bind e2 ?_
  simp only [e3, Option.bind_some, in_eq, hsz, wrap_id (e := (p.length : Int) - 1) (by omega) (by omega), wrap_id (e := (p.length : Int) - 1 - lastD p) (by omega) (by omega), mk_extract, List.drop_zero]
  have hca : ∀ n, strings_ContainsAny.f (mk (p.take n)) str_1 = some (decide (0 < nL (p.take n))) := fun n => ca_eq _ (by rw [List.length_take]; omega) (ascii_sub h fun b hb => List.mem_of_mem_take hb)
  have hle : ∀ n, nL (p.take n) ≤ nL p := fun n => by unfold nL; exact (List.take_sublist n p).countP_le
  have ib : isBase p = (AN p && decide (p.length ≤ 10) && decide (1 ≤ lastD p ∧ lastD p ≤ 3) && decide (1 ≤ (p.length : Int) - lastD p - 1 ∧ (p.length : Int) - lastD p - 1 ≤ 4) && decide (0 < nL (p.take (lastD p).toNat))) := rfl
  simp only [hca, Option.bind_some]
  have hle := hle (lastD p).toNat
  by_cases c : isBase p = true
  · rw [if_pos c]
    rw [ib] at c
    simp only [Bool.and_eq_true, decide_eq_true_eq] at c
    obtain ⟨⟨⟨⟨c1, c2⟩, c3⟩, c4⟩, c5⟩ := c
    refine Ev.pos ?_ (Ev.pos ?_ (Ev.pos ?_ (Ev.pos (by omega) (Ev.pos (by omega) (Ev.pos ?_ (Ev.now _))))))
    · simp only [Bool.and_eq_true, decide_eq_true_eq]; exact ⟨⟨⟨by omega, by omega⟩, c1⟩, by omega⟩
    · simp only [Bool.and_eq_true, decide_eq_true_eq]; omega
    · simp only [Bool.and_eq_true, decide_eq_true_eq]; omega
    · simp only [decide_eq_true_eq]; omega
  · rw [if_neg c]
    rw [ib] at c
    simp only [Bool.and_eq_true, decide_eq_true_eq] at c
    refine Ev.ite (fun d1 => Ev.ite (fun d2 => Ev.ite (fun d3 => ?_) (fun _ => Ev.now _)) (fun _ => Ev.now _)) (fun _ => Ev.now _)
    simp only [Bool.and_eq_true, decide_eq_true_eq] at d1 d2 d3
    refine Ev.pos (by omega) (Ev.pos (by omega) (Ev.neg ?_ (Ev.now _)))
    simp only [decide_eq_true_eq]
    intro d4
    exact c ⟨⟨⟨⟨d1.1.2, by omega⟩, by omega⟩, by omega⟩, d4⟩
theorem PartsOf1_ev (p : List UInt8) (h : isBase p = true) : Ev (fun k => pileref1_PartsOf_1.f k (mk p)) (mk p, mk (p.take (lastD p + 1).toNat), mk (p.drop (lastD p + 1).toNat), 0, eB) := by
  obtain ⟨b1, b2, b3, b4, b5⟩ := base_bd h
  have e1 := baseAt_ev p (AN_ascii b1) (by omega)
  rw [if_pos h] at e1
  have hsz := mk_size p
  unfold pileref1_PartsOf_1.f
  refine Ev.bind e1 ?_
  simp only [hsz, mk_extract, List.drop_zero, wrap_id (e := lastD p + 1) (by omega) (by omega), Int.toNat_natCast, List.take_length]
  exact Ev.pos (by omega) (Ev.pos (by omega) (Ev.pos (by omega) (Ev.pos (by omega) (Ev.now _))))
/-- What something behind a base call is. -/
def tailT (p : List UInt8) : Int × ByteArray × Bool :=
  if p = [112] then (3, eB, true) else if p = [109] then (4, eB, true) else if p = [109, 109] then (5, eB, true) else if p = [97, 109] then (6, eB, true)
  else if p.length = 1 ∧ isD (p.getD 0 0) = true then (2, mk p, true) else (1, mk p, beginB p)
theorem tail_ev (p : List UInt8) (hp : p.length ≤ 1000000) : Ev (fun k => call_tail.f k (mk p)) (tailT p) := by
  have hb := isBegin_ev p hp
  have hsz := mk_size p
  have q1 : mk p = (⟨#[112]⟩ : ByteArray) ↔ p = [112] := mk_inj (q := [112])
  have q2 : mk p = (⟨#[109]⟩ : ByteArray) ↔ p = [109] := mk_inj (q := [109])
  have q3 : mk p = (⟨#[109, 109]⟩ : ByteArray) ↔ p = [109, 109] := mk_inj (q := [109, 109])
  have q4 : mk p = (⟨#[97, 109]⟩ : ByteArray) ↔ p = [97, 109] := mk_inj (q := [97, 109])
  unfold call_tail.f tailT
  simp only [q1, q2, q3, q4, hsz]
  by_cases c1 : p = [112]
  · rw [if_pos c1]; exact Ev.pos c1 (Ev.now _)
  refine Ev.neg c1 ?_
  rw [if_neg c1]
  by_cases c2 : p = [109]
  · rw [if_pos c2]; exact Ev.pos c2 (Ev.now _)
  refine Ev.neg c2 ?_
  rw [if_neg c2]
  by_cases c3 : p = [109, 109]
  · rw [if_pos c3]; exact Ev.pos c3 (Ev.now _)
  refine Ev.neg c3 ?_
  rw [if_neg c3]
  by_cases c4 : p = [97, 109]
  · rw [if_pos c4]; exact Ev.pos c4 (Ev.now _)
  refine Ev.neg c4 ?_
  rw [if_neg c4]
  by_cases c5 : p.length = 1
  · have hb0 := mk_bt p 0 (by omega)
    have e0 : ((0 : Nat) : Int) = 0 := rfl
    rw [e0] at hb0
    have e1 : p.getD 0 0 = p[0] := by simp [List.getD, List.getElem?_eq_getElem (show 0 < p.length by omega)]
    rw [e1]
    simp only [hb0, isD_eq, Option.bind_some]
    refine Ev.pos (by omega) (Ev.pos (by omega) ?_)
    by_cases c6 : isD p[0] = true
    · rw [if_pos ⟨c5, c6⟩]; exact Ev.pos c6 (Ev.now _)
    · rw [if_neg fun h => c6 h.2]; exact Ev.neg c6 (Ev.bind hb (Ev.now _))
  · rw [if_neg fun h => c5 h.1]
    exact Ev.neg (by omega) (Ev.bind hb (Ev.now _))
/-! What stands before and behind the first slash. -/
def cutA (p : List UInt8) : List UInt8 := (Lib.cut p [47]).1
def cutZ (p : List UInt8) : List UInt8 := (Lib.cut p [47]).2.1
def cutY (p : List UInt8) : Bool := (Lib.cut p [47]).2.2
theorem cut_eq (p : List UInt8) (hp : p.length ≤ 1000000) : strings_Cut.f (mk p) (⟨#[47]⟩ : ByteArray) = some (mk (cutA p), mk (cutZ p), cutY p) := by
  unfold strings_Cut.f
  rw [if_pos (by rw [mk_size]; omega), mk_data]
  rfl
theorem index_mem (c : UInt8) : ∀ p : List UInt8, 0 ≤ Lib.index p [c] → c ∈ p
  | [], h => by simp [Lib.index] at h
  | b :: l, h => by
    have ih := index_mem c l
    unfold Lib.index at h
    by_cases e : b = c
    · simp [e]
    · have : ([c] : List UInt8).isPrefixOf (b :: l) = false := by
        simp only [List.isPrefixOf, Bool.and_true, beq_eq_false_iff_ne]
        exact fun h => e h.symm
      rw [this] at h
      simp only [Bool.false_eq_true, if_false] at h
      by_cases d : Lib.index l [c] = -1
      · rw [d] at h; simp at h
      · have d' : (Lib.index l [c] == -1) = false := by simpa using d
        rw [d'] at h
        simp only [Bool.false_eq_true, if_false] at h
        have hg := Lib.index_ge l [c]
        exact List.mem_cons_of_mem _ (ih (by omega))
theorem cut_sub (p : List UInt8) : (∀ b ∈ cutA p, b ∈ p) ∧ (∀ b ∈ cutZ p, b ∈ p) ∧ (cutA p).length ≤ p.length ∧ (cutZ p).length ≤ p.length ∧ (cutY p = true → (47 : UInt8) ∈ p) ∧ (cutY p = false → cutA p = p) := by
  unfold cutA cutZ cutY Lib.cut
  by_cases c : 0 ≤ Lib.index p [47]
  · rw [if_pos c]
    exact ⟨fun b hb => List.mem_of_mem_take hb, fun b hb => List.mem_of_mem_drop hb, by simp only [List.length_take]; omega, by simp only [List.length_drop]; omega, (fun _ => index_mem 47 p c), (fun h => absurd h (by simp))⟩
  · rw [if_neg c]
    exact ⟨fun b hb => hb, (fun b hb => absurd hb (by simp)), Nat.le_refl _, Nat.zero_le _, (fun h => absurd h (by simp)), fun _ => rfl⟩
theorem AN_no47 {p : List UInt8} (h : AN p = true) : (47 : UInt8) ∉ p := fun hm => by
  rw [AN, List.all_eq_true] at h
  have := h 47 hm
  revert this
  decide
/-- The parts of a call sign. -/
noncomputable def partsT (p : List UInt8) : PT6 :=
  if p.length > 14 then noT
  else if isBase p = true then baseT p 0 eB
  else if cutY p = true then
    if isBase (cutZ p) = true ∧ beginB (cutA p) = true then baseT (cutZ p) 1 (mk (cutA p))
    else if isBase (cutA p) = true ∧ (tailT (cutZ p)).2.2 = true then baseT (cutA p) (tailT (cutZ p)).1 (tailT (cutZ p)).2.1 else noT
  else noT
theorem Parts_ev (p : List UInt8) (hp : p.length ≤ 1000000) : Ev (fun k => call_Parts.f k (mk p)) (partsT p) := by
  have hsz := mk_size p
  obtain ⟨s1, s2, s3, s4, s5, s6⟩ := cut_sub p
  unfold call_Parts.f partsT
  by_cases c0 : p.length > 14
  · rw [if_pos c0]; exact Ev.pos (by rw [hsz]; omega) (Ev.now _)
  rw [if_neg c0]
  refine Ev.neg (by rw [hsz]; omega) ?_
  have eb := based_ev p hp
  by_cases c1 : isBase p = true
  · rw [if_pos c1] at eb
    rw [if_pos c1]; exact Ev.bind eb (Ev.pos rfl (Ev.now _))
  rw [if_neg c1] at eb
  rw [if_neg c1]
  refine Ev.bind eb (Ev.neg (by simp [noT]) ?_)
  simp only [cut_eq p hp, Option.bind_some]
  by_cases c2 : cutY p = true
  · rw [if_pos c2]
    refine Ev.pos c2 ?_
    have ez := based_ev (cutZ p) (by omega)
    have fin : ∀ (w : PT6), w = (if isBase (cutA p) = true ∧ (tailT (cutZ p)).2.2 = true then baseT (cutA p) (tailT (cutZ p)).1 (tailT (cutZ p)).2.1 else noT) →
        Ev (fun k => (call_based.f k (mk (cutA p))).bind fun r5 => ((call_tail.f k (mk (cutZ p))).bind fun r6 => (if r5.2.2.2.2.2 = true then (if r6.2.2 = true then Option.some (r5.1, r5.2.1, r5.2.2.1, r6.1, r6.2.1, true) else Option.some ((⟨#[]⟩ : ByteArray), (⟨#[]⟩ : ByteArray), (⟨#[]⟩ : ByteArray), 0, (⟨#[]⟩ : ByteArray), false)) else Option.some ((⟨#[]⟩ : ByteArray), (⟨#[]⟩ : ByteArray), (⟨#[]⟩ : ByteArray), 0, (⟨#[]⟩ : ByteArray), false)))) w := by
      intro w hw
      have eb := based_ev (cutA p) (by omega)
      by_cases d1 : isBase (cutA p) = true
      · rw [if_pos d1] at eb
        refine Ev.bind eb (Ev.bind (tail_ev (cutZ p) (by omega)) (Ev.pos rfl ?_))
        by_cases d2 : (tailT (cutZ p)).2.2 = true
        · rw [if_pos ⟨d1, d2⟩] at hw; subst hw; exact Ev.pos d2 (Ev.now _)
        · rw [if_neg fun h => d2 h.2] at hw; subst hw; exact Ev.neg d2 (Ev.now _)
      · rw [if_neg d1] at eb
        rw [if_neg fun h => d1 h.1] at hw
        subst hw
        exact Ev.bind eb (Ev.bind (tail_ev (cutZ p) (by omega)) (Ev.neg (by simp [noT]) (Ev.now _)))
    by_cases c3 : isBase (cutZ p) = true
    · rw [if_pos c3] at ez
      refine Ev.bind ez (Ev.pos rfl ?_)
      refine (Ev.bind (isBegin_ev (cutA p) (by omega)) ?_)
      by_cases c4 : beginB (cutA p) = true
      · rw [if_pos ⟨c3, c4⟩]; exact Ev.pos c4 (Ev.now _)
      · rw [if_neg fun h => c4 h.2]
        exact Ev.neg c4 (fin _ rfl)
    · rw [if_neg c3] at ez
      rw [if_neg fun h => c3 h.1]
      exact Ev.bind ez (Ev.neg (by simp [noT]) (fin _ rfl))
  · rw [if_neg c2]
    exact Ev.neg c2 (Ev.now _)
end Go.EV.Pure
namespace Go.EV.Pure
open Go Go.EV Go.RowKit
set_option linter.unusedSimpArgs false
set_option maxRecDepth 100000
theorem hasDig1 : ∀ b : UInt8, Lib.contains digL [b] = isD b := all_bytes (by decide +kernel)
theorem ref_tail (p z : List UInt8) (hz : z.length ≤ 1000000) (k2 : Int) (a : ByteArray × ByteArray × ByteArray × Int × ByteArray) (w : PT6)
    (ha : a.2.2.2.2 = eB)
    (hw : w = if (tailT z).2.2 = true then (a.1, a.2.1, a.2.2.1, (tailT z).1, (tailT z).2.1, true) else noT) :
    Ev (fun k => (if mk z = (⟨#[112]⟩ : ByteArray) then pileref1_PartsOf.j29 k a.1 a.2.1 a.2.2.1 3 a.2.2.2.2 else (if mk z = (⟨#[109]⟩ : ByteArray) then pileref1_PartsOf.j29 k a.1 a.2.1 a.2.2.1 4 a.2.2.2.2 else (if mk z = (⟨#[109, 109]⟩ : ByteArray) then pileref1_PartsOf.j29 k a.1 a.2.1 a.2.2.1 5 a.2.2.2.2 else (if mk z = (⟨#[97, 109]⟩ : ByteArray) then pileref1_PartsOf.j29 k a.1 a.2.1 a.2.2.1 6 a.2.2.2.2 else (if ((mk z).size : Int) = 1 then ((strings_Contains.f (⟨#[48, 49, 50, 51, 52, 53, 54, 55, 56, 57]⟩ : ByteArray) (mk z)).bind fun r10 => (if r10 = true then pileref1_PartsOf.j29 k a.1 a.2.1 a.2.2.1 2 (mk z) else ((pileref1_begin.f (mk z)).bind fun r11 => (if r11 = true then pileref1_PartsOf.j29 k a.1 a.2.1 a.2.2.1 1 (mk z) else Option.some ((⟨#[]⟩ : ByteArray), (⟨#[]⟩ : ByteArray), (⟨#[]⟩ : ByteArray), 0, (⟨#[]⟩ : ByteArray), false))))) else ((pileref1_begin.f (mk z)).bind fun r14 => (if r14 = true then pileref1_PartsOf.j29 k a.1 a.2.1 a.2.2.1 1 (mk z) else Option.some ((⟨#[]⟩ : ByteArray), (⟨#[]⟩ : ByteArray), (⟨#[]⟩ : ByteArray), 0, (⟨#[]⟩ : ByteArray), false))))))))) w := by
  have hj : ∀ (x1 x2 x3 : ByteArray) (n : Int) (x4 : ByteArray), Ev (fun k => pileref1_PartsOf.j29 k x1 x2 x3 n x4) (x1, x2, x3, n, x4, true) := fun x1 x2 x3 n x4 => Ev.from 1 fun k => rfl
  have hsz := mk_size z
  have q1 : mk z = (⟨#[112]⟩ : ByteArray) ↔ z = [112] := mk_inj (q := [112])
  have q2 : mk z = (⟨#[109]⟩ : ByteArray) ↔ z = [109] := mk_inj (q := [109])
  have q3 : mk z = (⟨#[109, 109]⟩ : ByteArray) ↔ z = [109, 109] := mk_inj (q := [109, 109])
  have q4 : mk z = (⟨#[97, 109]⟩ : ByteArray) ↔ z = [97, 109] := mk_inj (q := [97, 109])
  have hb := begin_eq z hz
  have fin : tailT z = (1, mk z, beginB z) → Ev (fun k => if beginB z = true then pileref1_PartsOf.j29 k a.1 a.2.1 a.2.2.1 1 (mk z) else Option.some ((⟨#[]⟩ : ByteArray), (⟨#[]⟩ : ByteArray), (⟨#[]⟩ : ByteArray), 0, (⟨#[]⟩ : ByteArray), false)) w := by
    intro ht
    rw [ht] at hw
    by_cases d : beginB z = true
    · simp only [if_pos d] at hw; subst hw; exact Ev.pos d (hj _ _ _ _ _)
    · simp only [if_neg d] at hw; subst hw; exact Ev.neg d (Ev.now _)
  simp only [q1, q2, q3, q4, hsz, hb, Option.bind_some, ha]
  by_cases c1 : z = [112]
  · refine Ev.pos c1 ?_
    rw [tailT, if_pos c1] at hw; subst hw; exact hj _ _ _ _ _
  refine Ev.neg c1 ?_
  by_cases c2 : z = [109]
  · refine Ev.pos c2 ?_
    rw [tailT, if_neg c1, if_pos c2] at hw; subst hw; exact hj _ _ _ _ _
  refine Ev.neg c2 ?_
  by_cases c3 : z = [109, 109]
  · refine Ev.pos c3 ?_
    rw [tailT, if_neg c1, if_neg c2, if_pos c3] at hw; subst hw; exact hj _ _ _ _ _
  refine Ev.neg c3 ?_
  by_cases c4 : z = [97, 109]
  · refine Ev.pos c4 ?_
    rw [tailT, if_neg c1, if_neg c2, if_neg c3, if_pos c4] at hw; subst hw; exact hj _ _ _ _ _
  refine Ev.neg c4 ?_
  by_cases c5 : z.length = 1
  · obtain ⟨b, rfl⟩ : ∃ b, z = [b] := List.length_eq_one_iff.1 c5
    have hc : strings_Contains.f (⟨#[48, 49, 50, 51, 52, 53, 54, 55, 56, 57]⟩ : ByteArray) (mk [b]) = some (isD b) := by
      unfold strings_Contains.f
      rw [if_pos (by decide +kernel), mk_data]
      congr 1
      exact hasDig1 b
    simp only [hc, Option.bind_some]
    refine Ev.pos (by simp) ?_
    by_cases c6 : isD b = true
    · refine Ev.pos c6 ?_
      have ht : tailT [b] = (2, mk [b], true) := by
        rw [tailT, if_neg c1, if_neg c2, if_neg c3, if_neg c4]
        exact if_pos ⟨rfl, c6⟩
      rw [ht] at hw
      subst hw; exact hj _ _ _ _ _
    · exact Ev.neg c6 (fin (by rw [tailT, if_neg c1, if_neg c2, if_neg c3, if_neg c4, if_neg fun h => c6 h.2]))
  · exact Ev.neg (by omega) (fin (by rw [tailT, if_neg c1, if_neg c2, if_neg c3, if_neg c4, if_neg fun h => c5 h.1]))
theorem PartsOf_ev (p : List UInt8) (h : asciiT (mk p) = true) (hp : p.length ≤ 1000000) : Ev (fun k => pileref1_PartsOf.f k (mk p)) (partsT p) := by
  have hsz := mk_size p
  obtain ⟨s1, s2, s3, s4, s5, s6⟩ := cut_sub p
  have hA := ascii_sub h s1
  have hZ := ascii_sub h s2
  unfold pileref1_PartsOf.f partsT
  simp only [cut_eq p hp, Option.bind_some]
  by_cases c0 : p.length > 14
  · rw [if_pos c0]; exact Ev.pos (by rw [hsz]; omega) (Ev.now _)
  rw [if_neg c0]
  refine Ev.neg (by rw [hsz]; omega) ?_
  have ea := baseAt_ev (cutA p) hA (by omega)
  by_cases c2 : cutY p = true
  · have c1 : ¬ isBase p = true := fun h => AN_no47 (base_bd h).1 (s5 c2)
    rw [if_neg c1, if_pos c2]
    refine Ev.pos c2 ?_
    have ez := baseAt_ev (cutZ p) hZ (by omega)
    have eb := begin_eq (cutA p) (by omega)
    have fin := fun (w : PT6) (hw : w = (if isBase (cutA p) = true ∧ (tailT (cutZ p)).2.2 = true then baseT (cutA p) (tailT (cutZ p)).1 (tailT (cutZ p)).2.1 else noT)) =>
      ref_tail p (cutZ p) (by omega) 0 (mk (cutA p), mk ((cutA p).take (lastD (cutA p) + 1).toNat), mk ((cutA p).drop (lastD (cutA p) + 1).toNat), 0, eB) (if (tailT (cutZ p)).2.2 = true then baseT (cutA p) (tailT (cutZ p)).1 (tailT (cutZ p)).2.1 else noT) rfl rfl
    have rest : ∀ (w : PT6), w = (if isBase (cutA p) = true ∧ (tailT (cutZ p)).2.2 = true then baseT (cutA p) (tailT (cutZ p)).1 (tailT (cutZ p)).2.1 else noT) →
        Ev (fun k => ((pileref1_baseAt.f k (mk (cutA p))).bind fun r23 => (if r23 < 0 then Option.some ((⟨#[]⟩ : ByteArray), (⟨#[]⟩ : ByteArray), (⟨#[]⟩ : ByteArray), 0, (⟨#[]⟩ : ByteArray), false) else ((pileref1_PartsOf_1.f k (mk (cutA p))).bind fun a => (if mk (cutZ p) = (⟨#[112]⟩ : ByteArray) then pileref1_PartsOf.j29 k a.1 a.2.1 a.2.2.1 3 a.2.2.2.2 else (if mk (cutZ p) = (⟨#[109]⟩ : ByteArray) then pileref1_PartsOf.j29 k a.1 a.2.1 a.2.2.1 4 a.2.2.2.2 else (if mk (cutZ p) = (⟨#[109, 109]⟩ : ByteArray) then pileref1_PartsOf.j29 k a.1 a.2.1 a.2.2.1 5 a.2.2.2.2 else (if mk (cutZ p) = (⟨#[97, 109]⟩ : ByteArray) then pileref1_PartsOf.j29 k a.1 a.2.1 a.2.2.1 6 a.2.2.2.2 else (if ((mk (cutZ p)).size : Int) = 1 then ((strings_Contains.f (⟨#[48, 49, 50, 51, 52, 53, 54, 55, 56, 57]⟩ : ByteArray) (mk (cutZ p))).bind fun r10 => (if r10 = true then pileref1_PartsOf.j29 k a.1 a.2.1 a.2.2.1 2 (mk (cutZ p)) else ((pileref1_begin.f (mk (cutZ p))).bind fun r11 => (if r11 = true then pileref1_PartsOf.j29 k a.1 a.2.1 a.2.2.1 1 (mk (cutZ p)) else Option.some ((⟨#[]⟩ : ByteArray), (⟨#[]⟩ : ByteArray), (⟨#[]⟩ : ByteArray), 0, (⟨#[]⟩ : ByteArray), false))))) else ((pileref1_begin.f (mk (cutZ p))).bind fun r14 => (if r14 = true then pileref1_PartsOf.j29 k a.1 a.2.1 a.2.2.1 1 (mk (cutZ p)) else Option.some ((⟨#[]⟩ : ByteArray), (⟨#[]⟩ : ByteArray), (⟨#[]⟩ : ByteArray), 0, (⟨#[]⟩ : ByteArray), false)))))))))))) w := by
      intro w hw
      refine Ev.bind ea ?_
      by_cases d : isBase (cutA p) = true
      · obtain ⟨b1, b2, b3, b4, b5⟩ := base_bd d
        have hq : (if isBase (cutA p) = true then lastD (cutA p) else -1) = lastD (cutA p) := if_pos d
        have e1 := PartsOf1_ev (cutA p) d
        rw [hq]
        have hw2 : w = if (tailT (cutZ p)).2.2 = true then baseT (cutA p) (tailT (cutZ p)).1 (tailT (cutZ p)).2.1 else noT := by
          rw [hw]
          by_cases d2 : (tailT (cutZ p)).2.2 = true
          · rw [if_pos ⟨d, d2⟩, if_pos d2]
          · rw [if_neg fun h => d2 h.2, if_neg d2]
        rw [hw2]
        exact Ev.neg (by omega) (Ev.bind e1 (fin w hw))
      · have hq : (if isBase (cutA p) = true then lastD (cutA p) else -1) = -1 := if_neg d
        rw [hq]
        rw [if_neg fun h => d h.1] at hw
        subst hw
        exact Ev.pos (by omega) (Ev.now _)
    refine Ev.bind ez ?_
    by_cases c3 : isBase (cutZ p) = true
    · obtain ⟨b1, b2, b3, b4, b5⟩ := base_bd c3
      have hq : (if isBase (cutZ p) = true then lastD (cutZ p) else -1) = lastD (cutZ p) := if_pos c3
      rw [hq]
      refine Ev.pos (by omega) ?_
      simp only [eb, Option.bind_some]
      by_cases c4 : beginB (cutA p) = true
      · rw [if_pos ⟨c3, c4⟩]
        exact Ev.pos c4 (Ev.bind (PartsOf1_ev (cutZ p) c3) (Ev.now _))
      · rw [if_neg fun h => c4 h.2]
        exact Ev.neg c4 (rest _ rfl)
    · have hq : (if isBase (cutZ p) = true then lastD (cutZ p) else -1) = -1 := if_neg c3
      rw [hq]
      rw [if_neg fun h => c3 h.1]
      exact Ev.neg (by omega) (rest _ rfl)
  · have c2f : cutY p = false := by simpa using c2
    have ep := s6 c2f
    rw [ep] at ea ⊢
    rw [if_neg c2]
    refine Ev.neg c2 ?_
    refine Ev.bind ea ?_
    by_cases c1 : isBase p = true
    · obtain ⟨b1, b2, b3, b4, b5⟩ := base_bd c1
      have hq : (if isBase p = true then lastD p else -1) = lastD p := if_pos c1
      rw [hq, if_pos c1]
      exact Ev.neg (by omega) (Ev.bind (PartsOf1_ev p c1) (Ev.now _))
    · have hq : (if isBase p = true then lastD p else -1) = -1 := if_neg c1
      rw [hq, if_neg c1]
      exact Ev.pos (by omega) (Ev.now _)
/-- The parts, the base and whether it is a call sign, on both sides. -/
noncomputable def isCallT (p : List UInt8) : Bool := (partsT p).2.2.2.2.2
theorem noT_of {p : List UInt8} (h : isCallT p = false) : partsT p = noT := by
  unfold isCallT at h
  unfold partsT at h ⊢
  split
  · rfl
  · rename_i c0
    rw [if_neg c0] at h
    split
    · rename_i c1; rw [if_pos c1] at h; cases h
    · rename_i c1
      rw [if_neg c1] at h
      split
      · rename_i c2
        rw [if_pos c2] at h
        split
        · rename_i c3; rw [if_pos c3] at h; cases h
        · rename_i c3
          rw [if_neg c3] at h
          split
          · rename_i c4; rw [if_pos c4] at h; cases h
          · rfl
      · rfl
theorem Apart_ev (p : List UInt8) (hp : p.length ≤ 1000000) : Ev (fun k => call_Apart.f k (mk p)) ((partsT p).1, (partsT p).2.1, (partsT p).2.2.1, (partsT p).2.2.2.1, (partsT p).2.2.2.2.1, if isCallT p = true then 0 else 3) := by
  unfold call_Apart.f
  refine Ev.bind (Parts_ev p hp) ?_
  by_cases c : isCallT p = true
  · rw [if_pos c]; exact Ev.pos c (Ev.now _)
  · rw [if_neg c]
    have := noT_of (by simpa using c)
    rw [this]
    exact Ev.neg (by simp [noT]) (Ev.now _)
theorem Is_ev (p : List UInt8) (hp : p.length ≤ 1000000) : Ev (fun k => call_Is.f k (mk p)) (isCallT p) := Ev.bind (Parts_ev p hp) (Ev.now _)
theorem Base_ev (p : List UInt8) (hp : p.length ≤ 1000000) : Ev (fun k => call_Base.f k (mk p)) ((partsT p).1, if isCallT p = true then 0 else 3) := Ev.bind (Apart_ev p hp) (Ev.now _)
end Go.EV.Pure
namespace Go.EV.Pure
open Go Go.EV Go.RowKit
set_option linter.unusedSimpArgs false
set_option maxRecDepth 100000
/-! Strings that the stream draws: of ASCII, and short. -/
def GS (n : Nat) (s : ByteArray) : Prop := asciiT s = true ∧ s.size ≤ n
theorem ascii_app {a b : ByteArray} (ha : asciiT a = true) (hb : asciiT b = true) : asciiT (a ++ b) = true := by
  unfold asciiT at ha hb ⊢
  simp only [ByteArray.data_append, Array.toList_append, List.all_append, ha, hb, Bool.and_self]
theorem ascii_ext {a : ByteArray} (ha : asciiT a = true) (i j : Nat) : asciiT (a.extract i j) = true := by
  rw [mk_of a] at ha ⊢
  rw [mk_extract]
  exact ascii_sub ha fun b hb => List.mem_of_mem_take (List.mem_of_mem_drop hb)
theorem enc_ascii : ∀ b : UInt8, b.toNat < 128 → Utf8.encode (IntKind.i32.wrap (b.toNat : Int)) = mk [b] := all_bytes (by decide +kernel)
theorem GS.app {n m : Nat} {a b : ByteArray} (ha : GS n a) (hb : GS m b) : GS (n + m) (a ++ b) := ⟨ascii_app ha.1 hb.1, by rw [ByteArray.size_append]; have := ha.2; have := hb.2; omega⟩
theorem GS.mono {n m : Nat} {a : ByteArray} (ha : GS n a) (h : n ≤ m) : GS m a := ⟨ha.1, Nat.le_trans ha.2 h⟩
theorem Some_spec (l : List Int) (s : Int) (m : List ByteArray) (h0 : 0 ≤ s) (h1 : s ≤ 4611686018427387904) (hl : l.length ≤ 140737488351232) (hm : 1 ≤ m.length) (hm2 : m.length ≤ 1000) :
    ∃ r, Ev (fun k => pilemake_Stream_Some.f k l s m) (r, l, s + 1) ∧ r ∈ m := by
  obtain ⟨r, hr, r0, r1⟩ := Next_spec l s (m.length : Int) h0 h1 (by omega) hl
  have r2 := r1 (by omega)
  exact ⟨rdE eS m r, Ev.bind hr (Ev.pos r0 (Ev.pos r2 (Ev.now _))), rdE_mem eS m r r0 r2⟩
theorem Some_GS (n : Nat) (l : List Int) (s : Int) (m : List ByteArray) (h0 : 0 ≤ s) (h1 : s ≤ 4611686018427387904) (hl : l.length ≤ 140737488351232) (hm : 1 ≤ m.length) (hm2 : m.length ≤ 1000) (hg : ∀ r ∈ m, asciiT r = true ∧ r.size ≤ n) :
    ∃ r, Ev (fun k => pilemake_Stream_Some.f k l s m) (r, l, s + 1) ∧ GS n r := by
  obtain ⟨r, h, hr⟩ := Some_spec l s m h0 h1 hl hm hm2
  exact ⟨r, h, hg r hr⟩
theorem ext_le (x : ByteArray) (a b : Nat) : (x.extract a b).size ≤ x.size := by rw [ByteArray.size_extract]; omega
theorem Changed_fin (l : List Int) (s o : Int) (i X : Nat) (hi : i < X) (hX : X ≤ 1000000) (A M Y Z : ByteArray) (hA : A.size ≤ 1000000) (hM : M.size ≤ 1) (hY : Y.size ≤ 1000000) (hZ : Z.size ≤ 1000000) :
    ∃ r, (r = A ++ M ++ Y ∨ r = A ++ M ++ Z ∨ r = A ++ Y) ∧ Ev (fun k => (if o = 0 then (if 0 ≤ (i : Int) then (if (i : Int) ≤ (X : Int) then (if A.size + M.size ≤ 9223372036854775807 then (if 0 ≤ ((i + 1 : Nat) : Int) then (if ((i + 1 : Nat) : Int) ≤ (X : Int) then (if (A ++ M).size + Y.size ≤ 9223372036854775807 then Option.some ((A ++ M) ++ Y, l, s) else Option.none) else Option.none) else Option.none) else Option.none) else Option.none) else Option.none) else (if o = 1 then (if 0 ≤ (i : Int) then (if (i : Int) ≤ (X : Int) then (if A.size + M.size ≤ 9223372036854775807 then (if 0 ≤ (i : Int) then (if (i : Int) ≤ (X : Int) then (if (A ++ M).size + Z.size ≤ 9223372036854775807 then Option.some ((A ++ M) ++ Z, l, s) else Option.none) else Option.none) else Option.none) else Option.none) else Option.none) else Option.none) else (if 0 ≤ (i : Int) then (if (i : Int) ≤ (X : Int) then (if 0 ≤ ((i + 1 : Nat) : Int) then (if ((i + 1 : Nat) : Int) ≤ (X : Int) then (if A.size + Y.size ≤ 9223372036854775807 then Option.some (A ++ Y, l, s) else Option.none) else Option.none) else Option.none) else Option.none) else Option.none)))) (r, l, s) := by
  have e : (A ++ M).size = A.size + M.size := ByteArray.size_append
  rw [e]
  generalize A.size = a at hA
  generalize M.size = m at hM
  generalize Y.size = y at hY
  generalize Z.size = z at hZ
  clear e
  by_cases c1 : o = 0
  · exact ⟨_, .inl rfl, Ev.pos c1 (Ev.pos (by omega) (Ev.pos (by omega) (Ev.pos (by omega) (Ev.pos (by omega) (Ev.pos (by omega) (Ev.pos (by omega) (Ev.now _)))))))⟩
  · by_cases c2 : o = 1
    · exact ⟨_, .inr (.inl rfl), Ev.neg c1 (Ev.pos c2 (Ev.pos (by omega) (Ev.pos (by omega) (Ev.pos (by omega) (Ev.pos (by omega) (Ev.pos (by omega) (Ev.pos (by omega) (Ev.now _))))))))⟩
    · exact ⟨_, .inr (.inr rfl), Ev.neg c1 (Ev.neg c2 (Ev.pos (by omega) (Ev.pos (by omega) (Ev.pos (by omega) (Ev.pos (by omega) (Ev.pos (by omega) (Ev.now _)))))))⟩
theorem size_pos (y : ByteArray) (hy : ¬ y = (⟨#[]⟩ : ByteArray)) : 1 ≤ y.size := by
  rcases Nat.eq_zero_or_pos y.size with h | h
  · refine absurd ?_ hy
    apply ByteArray.ext
    apply Array.eq_empty_of_size_eq_zero
    exact h
  · exact h
theorem bt_enc (w : ByteArray) (hw : asciiT w = true) (d : Nat) (hd : d < w.size) : ∃ b : UInt8, Utf8.encode (IntKind.i32.wrap (bt w (d : Int))) = mk [b] ∧ asciiT (mk [b]) = true := by
  have hd : d < w.data.toList.length := by rw [Array.length_toList]; exact hd
  have hb : bt w (d : Int) = ((w.data.toList[d]).toNat : Int) := by
    conv => lhs; rw [mk_of w]
    rw [mk_bt _ d hd]
  have ha : (w.data.toList[d]).toNat < 128 := by
    unfold asciiT at hw
    rw [List.all_eq_true] at hw
    simpa using hw _ (List.getElem_mem hd)
  exact ⟨w.data.toList[d], by rw [hb]; exact enc_ascii _ ha, by rw [mk_ascii]; simpa using ha⟩
theorem Changed_GS (n : Nat) (l : List Int) (s : Int) (x w : ByteArray) (h0 : 0 ≤ s) (h1 : s ≤ 4611686018427387000) (hl : l.length ≤ 140737488351232) (hx : GS n x) (hn : n ≤ 100000) (hw : GS 1000 w) (hw0 : ¬ w = (⟨#[]⟩ : ByteArray)) :
    ∃ r s', Ev (fun k => pilemake_Stream_Changed.f k l s x w) (r, l, s') ∧ (GS (n + 1 + n) r ∨ r = w) ∧ s ≤ s' ∧ s' ≤ s + 3 := by
  unfold pilemake_Stream_Changed.f
  by_cases c : x = (⟨#[]⟩ : ByteArray)
  · exact ⟨w, s, Ev.pos c (Ev.now _), .inr rfl, by omega, by omega⟩
  have sx := size_pos x c
  have sw := size_pos w hw0
  have hx2 := hx.2
  have hw2 := hw.2
  obtain ⟨i, ei, i0, i1⟩ := Next_spec l s (x.size : Int) h0 (by omega) (by omega) hl
  obtain ⟨d, ed, d0, d1⟩ := Next_spec l (s + 1) (w.size : Int) (by omega) (by omega) (by omega) hl
  obtain ⟨o, eo, o0, o1⟩ := Next_spec l (s + 1 + 1) 3 (by omega) (by omega) (by omega) hl
  have i2 := i1 (by omega)
  have d2 := d1 (by omega)
  clear i1 d1 o1
  obtain ⟨i, rfl⟩ : ∃ n : Nat, i = n := ⟨i.toNat, by omega⟩
  obtain ⟨d, rfl⟩ : ∃ n : Nat, d = n := ⟨d.toNat, by omega⟩
  obtain ⟨b, hb, ha⟩ := bt_enc w hw.1 d (by omega)
  have g1 : GS 1 (mk [b]) := ⟨ha, by rw [mk_size]; exact Nat.le_refl _⟩
  have w1 : wrap64 ((i : Int) + 1) = ((i + 1 : Nat) : Int) := wrap_succ (by omega)
  have gx : ∀ a b, GS n (x.extract a b) := fun a b => ⟨ascii_ext hx.1 a b, Nat.le_trans (ext_le x a b) hx.2⟩
  have zx : ∀ a b, (x.extract a b).size ≤ 1000000 := fun a b => Nat.le_trans (ext_le x a b) (by omega)
  obtain ⟨r, h2, h3⟩ := Changed_fin l (s + 1 + 1 + 1) o i x.size (by omega) (by omega) (x.extract 0 i) (mk [b]) (x.extract (i + 1) x.size) (x.extract i x.size) (zx _ _) g1.2 (zx _ _) (zx _ _)
  refine ⟨r, s + 1 + 1 + 1, Ev.neg c (Ev.neg hw0 (Ev.bind ei (Ev.bind ed ?_))), .inl ?_, by omega, by omega⟩
  · refine Ev.pos d0 (Ev.pos d2 (Ev.bind eo ?_))
    simp only [hb, w1, Int.toNat_natCast]
    exact h3
  · rcases h2 with rfl | rfl | rfl
    · exact ((gx _ _).app g1).app (gx _ _)
    · exact ((gx _ _).app g1).app (gx _ _)
    · exact ((gx _ _).app (gx _ _)).mono (by omega)
theorem CallOf_spec (l : List Int) (s : Int) (h0 : 0 ≤ s) (h1 : s ≤ 4611686018427386000) (hl : l.length ≤ 140737488351232) :
    ∃ t s', Ev (fun k => pilemake_Stream_CallOf.f k l s) (mk t, l, s') ∧ asciiT (mk t) = true ∧ t.length ≤ 200 ∧ s ≤ s' ∧ s' ≤ s + 10 := by
  have j10 : ∀ (x : ByteArray) (s : Int), 0 ≤ s → s ≤ 4611686018427386900 → GS 50 x → ∃ t s', Ev (fun k => pilemake_Stream_CallOf.j10 k x l s) (mk t, l, s') ∧ asciiT (mk t) = true ∧ t.length ≤ 200 ∧ s ≤ s' ∧ s' ≤ s + 4 := by
    intro x s h0 h1 hx
    obtain ⟨b, eb⟩ := Flip_spec l s 12 h0 (by omega) (by omega) hl
    have j12 : ∀ (y : ByteArray) (s : Int), Ev (fun k => pilemake_Stream_CallOf.j12 k y l s) (y, l, s) := fun y s => Ev.from 1 fun k => rfl
    have fin : ∀ (y : ByteArray), GS 200 y → ∃ t, y = mk t ∧ asciiT (mk t) = true ∧ t.length ≤ 200 := fun y hy => ⟨y.data.toList, mk_of y, by rw [← mk_of]; exact hy.1, by rw [Array.length_toList]; exact hy.2⟩
    by_cases c : b = true
    · obtain ⟨r, s', er, hr, q1, q2⟩ := Changed_GS 50 l (s + 1) x (⟨#[97, 48, 47, 107, 49, 45]⟩ : ByteArray) (by omega) (by omega) hl hx (by omega) ⟨by decide +kernel, by decide +kernel⟩ (by decide +kernel)
      have hr : GS 200 r := by
        rcases hr with hr | rfl
        · exact hr.mono (by omega)
        · exact ⟨by decide +kernel, by decide +kernel⟩
      obtain ⟨t, rfl, t1, t2⟩ := fin r hr
      refine ⟨t, s', Ev.succ ?_, t1, t2, by omega, by omega⟩
      simp only [pilemake_Stream_CallOf.j10]
      exact Ev.bind eb (Ev.pos c (Ev.bind er (j12 _ _)))
    · obtain ⟨t, rfl, t1, t2⟩ := fin x (hx.mono (by omega))
      refine ⟨t, s + 1, Ev.succ ?_, t1, t2, by omega, by omega⟩
      simp only [pilemake_Stream_CallOf.j10]
      exact Ev.bind eb (Ev.neg c (j12 _ _))
  unfold pilemake_Stream_CallOf.f
  obtain ⟨b, e1, g1⟩ := Some_GS 10 l s [(⟨#[107, 49, 97, 98]⟩ : ByteArray), (⟨#[107, 52, 97, 98]⟩ : ByteArray), (⟨#[111, 104, 50, 97, 98, 99]⟩ : ByteArray), (⟨#[111, 104, 48, 120]⟩ : ByteArray), (⟨#[51, 100, 97, 48, 120, 121]⟩ : ByteArray), (⟨#[103, 51, 97]⟩ : ByteArray), (⟨#[100, 108, 49, 122, 122]⟩ : ByteArray), (⟨#[119, 49, 97, 119]⟩ : ByteArray), (⟨#[107, 49, 98, 97]⟩ : ByteArray)] h0 (by omega) hl (by simp) (by simp) (by decide +kernel)
  obtain ⟨n, e2, n0, n1⟩ := Next_spec l (s + 1) 9 (by omega) (by omega) (by omega) hl
  have zb := g1.2
  have sl : GS 1 (⟨#[47]⟩ : ByteArray) := ⟨by decide +kernel, by decide +kernel⟩
  by_cases c0 : n = 0
  · obtain ⟨a, e3, g3⟩ := Some_GS 10 l (s + 1 + 1) [(⟨#[47, 112]⟩ : ByteArray), (⟨#[47, 109]⟩ : ByteArray), (⟨#[47, 109, 109]⟩ : ByteArray), (⟨#[47, 97, 109]⟩ : ByteArray), (⟨#[47, 52]⟩ : ByteArray), (⟨#[47, 48]⟩ : ByteArray)] (by omega) (by omega) hl (by simp) (by simp) (by decide +kernel)
    obtain ⟨t, s', e4, t1, t2, q1, q2⟩ := j10 (b ++ a) (s + 1 + 1 + 1) (by omega) (by omega) ((g1.app g3).mono (by omega))
    have za := g3.2
    exact ⟨t, s', Ev.bind e1 (Ev.bind e2 (Ev.pos c0 (Ev.bind e3 (Ev.pos (by simp only; omega) e4)))), t1, t2, by omega, by omega⟩
  by_cases c1 : n = 1
  · obtain ⟨a, e3, g3⟩ := Some_GS 10 l (s + 1 + 1) [(⟨#[111, 104, 48]⟩ : ByteArray), (⟨#[103]⟩ : ByteArray), (⟨#[51, 97]⟩ : ByteArray), (⟨#[100, 108]⟩ : ByteArray)] (by omega) (by omega) hl (by simp) (by simp) (by decide +kernel)
    obtain ⟨t, s', e4, t1, t2, q1, q2⟩ := j10 ((a ++ (⟨#[47]⟩ : ByteArray)) ++ b) (s + 1 + 1 + 1) (by omega) (by omega) (((g3.app sl).app g1).mono (by omega))
    have za := g3.2
    have zc := (g3.app sl).2
    have zs := sl.2
    exact ⟨t, s', Ev.bind e1 (Ev.bind e2 (Ev.neg c0 (Ev.pos c1 (Ev.bind e3 (Ev.pos (by simp only; omega) (Ev.pos (by simp only; omega) e4)))))), t1, t2, by omega, by omega⟩
  by_cases c2 : n = 2
  · obtain ⟨a, e3, g3⟩ := Some_GS 10 l (s + 1 + 1) [(⟨#[111, 104, 48]⟩ : ByteArray), (⟨#[103]⟩ : ByteArray), (⟨#[119, 50, 98]⟩ : ByteArray), (⟨#[107]⟩ : ByteArray)] (by omega) (by omega) hl (by simp) (by simp) (by decide +kernel)
    obtain ⟨t, s', e4, t1, t2, q1, q2⟩ := j10 ((b ++ (⟨#[47]⟩ : ByteArray)) ++ a) (s + 1 + 1 + 1) (by omega) (by omega) (((g1.app sl).app g3).mono (by omega))
    have za := g3.2
    have zc := (g1.app sl).2
    have zs := sl.2
    exact ⟨t, s', Ev.bind e1 (Ev.bind e2 (Ev.neg c0 (Ev.neg c1 (Ev.pos c2 (Ev.pos (by simp only; omega) (Ev.bind e3 (Ev.pos (by simp only; omega) e4))))))), t1, t2, by omega, by omega⟩
  · obtain ⟨t, s', e4, t1, t2, q1, q2⟩ := j10 b (s + 1 + 1) (by omega) (by omega) (g1.mono (by omega))
    exact ⟨t, s', Ev.bind e1 (Ev.bind e2 (Ev.neg c0 (Ev.neg c1 (Ev.neg c2 e4)))), t1, t2, by omega, by omega⟩
end Go.EV.Pure
namespace Go.EV.Pure
open Go Go.EV Go.RowKit
set_option linter.unusedSimpArgs false
set_option maxRecDepth 100000
theorem called_ev : Ev (fun k => pilelaw1_called.f k) true := by
  have e1 : Ev (fun k => call_Apart.f k (⟨#[111, 104, 50, 97, 98, 99, 47, 52]⟩ : ByteArray)) ((⟨#[111, 104, 50, 97, 98, 99]⟩ : ByteArray), (⟨#[111, 104, 50]⟩ : ByteArray), (⟨#[97, 98, 99]⟩ : ByteArray), 2, (⟨#[52]⟩ : ByteArray), 0) :=
    Ev.from 300 fun k => (by kernel_rfl : call_Apart.f (k + 300) (⟨#[111, 104, 50, 97, 98, 99, 47, 52]⟩ : ByteArray) = some ((⟨#[111, 104, 50, 97, 98, 99]⟩ : ByteArray), (⟨#[111, 104, 50]⟩ : ByteArray), (⟨#[97, 98, 99]⟩ : ByteArray), 2, (⟨#[52]⟩ : ByteArray), 0))
  unfold pilelaw1_called.f
  refine Ev.bind e1 (Ev.pos rfl ?_)
  exact Ev.of fun k => by decide +kernel
theorem CallsApart (l : List Int) (hl : l.length ≤ 140737488351232) : ∃ k, pilelaw1_CallsApart.f k l = some true := by
  obtain ⟨t, s', e1, t1, t2, q1, q2⟩ := CallOf_spec l 0 (by omega) (by omega) hl
  have e2 := PartsOf_ev t t1 (by omega)
  have e3 := Apart_ev t (by omega)
  have e4 := Base_ev t (by omega)
  have e5 := Is_ev t (by omega)
  refine (Ev.bind e1 (Ev.bind e2 (Ev.bind e3 (Ev.bind e4 ?_)))).ex
  have hw : pilelaw1_when.f (!(partsT t).2.2.2.2.2) 3 = some (if isCallT t = true then 0 else 3) := by
    unfold pilelaw1_when.f isCallT
    cases (partsT t).2.2.2.2.2 <;> rfl
  simp only [hw, Option.bind_some]
  refine Ev.bind e5 (Ev.pos (by simp [isCallT]) (Ev.pos (by first | rfl | trivial) (Ev.pos (by simp) (Ev.pos (by first | rfl | trivial) (Ev.pos (by first | rfl | trivial) (Ev.bind called_ev (Ev.now _)))))))
end Go.EV.Pure
