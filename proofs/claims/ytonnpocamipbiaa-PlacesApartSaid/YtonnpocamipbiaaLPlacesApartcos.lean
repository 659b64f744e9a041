/- Plain laws of the cosine, of the program's and of the document's: both are one function of the angle. -/
import Derived.Test.YtonnpocamipbiaaLPlacesApartbase
namespace Go.Proofs.Ytonnpocamipbiaa.PPlacesApart
open Go.RowKit Go.Proofs.YtonnpocamipbiaaW.PrintWords Go.Proofs.YtonnpocamipbiaaW.PrintLast
/-- The cosine of an angle from 0 to a quarter. -/
def cosQ (x : Int) : Int := Int.tdiv ((419904000000 - 4 * x * x) * 1000000) (419904000000 + x * x)
/-- The cosine of any angle. -/
def cosV (a : Int) : Int :=
  if a % 1296000 > 648000 then (if 1296000 - a % 1296000 > 324000 then -(cosQ (648000 - (1296000 - a % 1296000))) else cosQ (1296000 - a % 1296000))
  else (if a % 1296000 > 324000 then -(cosQ (648000 - a % 1296000)) else cosQ (a % 1296000))
theorem sq_bd (x : Int) (h0 : 0 ≤ x) (h1 : x ≤ 324000) : 0 ≤ x * x ∧ x * x ≤ 104976000000 := by
  refine ⟨Int.mul_nonneg h0 h0, ?_⟩
  exact Int.le_trans (Int.mul_le_mul_of_nonneg_left h1 h0) (Int.mul_le_mul_of_nonneg_right h1 (by omega))
theorem cosQ_bd (x : Int) (h0 : 0 ≤ x) (h1 : x ≤ 324000) : 0 ≤ cosQ x ∧ cosQ x ≤ 1000000 := by
  obtain ⟨a, b⟩ := sq_bd x h0 h1
  have e : 4 * x * x = 4 * (x * x) := by rw [Int.mul_assoc]
  unfold cosQ
  rw [e]
  generalize x * x = q at *
  rw [tdiv_pos (by omega)]
  refine ⟨Int.ediv_nonneg (by omega) (by omega), ?_⟩
  have := Int.ediv_mul_le ((419904000000 - 4 * q) * 1000000) (b := 419904000000 + q) (by omega)
  exact Int.ediv_le_of_le_mul (by omega) (by omega)
theorem cosV_bd (a : Int) : -1000000 ≤ cosV a ∧ cosV a ≤ 1000000 := by
  have m0 : 0 ≤ a % 1296000 := Int.emod_nonneg _ (by omega)
  have m1 : a % 1296000 < 1296000 := Int.emod_lt_of_pos _ (by omega)
  unfold cosV
  generalize a % 1296000 = x at *
  split
  · split
    · have := cosQ_bd (648000 - (1296000 - x)) (by omega) (by omega); omega
    · have := cosQ_bd (1296000 - x) (by omega) (by omega); omega
  · split
    · have := cosQ_bd (648000 - x) (by omega) (by omega); omega
    · have := cosQ_bd x (by omega) (by omega); omega
theorem core_eq (x : Int) (h0 : 0 ≤ x) (h1 : x ≤ 324000) :
    (if (wrap64 (419904000000 + (wrap64 (x * x)))) = 0 then (none : Option Int) else (some (wrap64 (Int.tdiv (wrap64 ((wrap64 (419904000000 - (wrap64 ((wrap64 (4 * x)) * x)))) * 1000000)) (wrap64 (419904000000 + (wrap64 (x * x)))))))) = some (cosQ x) := by
  obtain ⟨a, b⟩ := sq_bd x h0 h1
  have e : 4 * x * x = 4 * (x * x) := by rw [Int.mul_assoc]
  have hb := cosQ_bd x h0 h1
  rw [wrap_id (e := 4 * x) (by omega) (by omega), wrap_id (e := x * x) (by omega) (by omega), wrap_id (e := 419904000000 + x * x) (by omega) (by omega), wrap_id (e := 4 * x * x) (by omega) (by omega), wrap_id (e := 419904000000 - 4 * x * x) (by omega) (by omega), wrap_id (e := (419904000000 - 4 * x * x) * 1000000) (by omega) (by omega), if_neg (by omega)]
  have : (Int.tdiv ((419904000000 - 4 * x * x) * 1000000) (419904000000 + x * x)) = cosQ x := rfl
  rw [this, wrap_id (by omega) (by omega)]
theorem cosine_mod (a : Int) : Int.tmod (wrap64 (Int.tmod a 1296000 + 1296000)) 1296000 = a % 1296000 := by
  by_cases h : 0 ≤ a
  · rw [tmod_pos h, wrap_id (by omega) (by omega), tmod_pos (by omega)]; omega
  · rw [tmod_neg (a := a) (by omega), wrap_id (by omega) (by omega), tmod_pos (by omega)]; omega
theorem cosine_low (x : Int) (h0 : 0 ≤ x) (h1 : x ≤ 324000) (k : Nat) : place_cosine.f (k + 1) x = some (cosQ x) := by
  simp only [place_cosine.f]
  rw [cosine_mod, show x % 1296000 = x by omega, if_neg (by omega), if_neg (by omega)]
  exact core_eq x h0 h1
theorem cosine_eq (a : Int) (k : Nat) : place_cosine.f (k + 2) a = some (cosV a) := by
  have m0 : 0 ≤ a % 1296000 := Int.emod_nonneg _ (by omega)
  have m1 : a % 1296000 < 1296000 := Int.emod_lt_of_pos _ (by omega)
  rw [place_cosine.f, cosine_mod]
  unfold cosV
  generalize a % 1296000 = x at *
  by_cases c : x > 648000
  · rw [if_pos c, if_pos c, wrap_id (e := 1296000 - x) (by omega) (by omega)]
    by_cases d : 1296000 - x > 324000
    · have hb := cosQ_bd (648000 - (1296000 - x)) (by omega) (by omega)
      rw [if_pos d, if_pos d, wrap_id (by omega) (by omega), cosine_low _ (by omega) (by omega)]
      simp only [Option.bind_some]
      rw [wrap_id (by omega) (by omega)]
    · rw [if_neg d, if_neg d]
      exact core_eq _ (by omega) (by omega)
  · rw [if_neg c, if_neg c]
    by_cases d : x > 324000
    · have hb := cosQ_bd (648000 - x) (by omega) (by omega)
      rw [if_pos d, if_pos d, wrap_id (by omega) (by omega), cosine_low _ (by omega) (by omega)]
      simp only [Option.bind_some]
      rw [wrap_id (by omega) (by omega)]
    · rw [if_neg d, if_neg d]
      exact core_eq _ (by omega) (by omega)
theorem Cosine_eq (a : Int) (k : Nat) : place_Cosine.f (k + 2) a = some (if -1296000000 ≤ a ∧ a ≤ 1296000000 then (cosV a, 0) else (0, 1)) := by
  unfold place_Cosine.f
  rw [Outside_eq, cosine_eq]
  simp only [Option.bind_some, decide_eq_true_eq]
  by_cases h : -1296000000 ≤ a ∧ a ≤ 1296000000
  · rw [if_neg (by omega), if_pos h]
  · rw [if_pos (by omega), if_neg h]
theorem placed_eq (k : Nat) : pilelaw1_placed.f (k + 2) = some true := by
  unfold pilelaw1_placed.f
  rw [Cosine_eq, if_pos (by omega)]
  have : cosV 216000 = 500000 := by decide +kernel
  simp [this]
theorem mn_eq (a b : Int) : mn a b = if b < a then b else a := rfl
theorem CosineOf_low (x : Int) (h0 : 0 ≤ x) (h1 : x ≤ 324000) (k : Nat) : pileref1_CosineOf.f (k + 1) x = some (cosQ x) := by
  simp only [pileref1_CosineOf.f]
  have e : Int.tmod x 1296000 = x := by rw [tmod_pos h0]; omega
  have m : mn x (wrap64 (1296000 - x)) = x := by rw [wrap_id (by omega) (by omega), mn_eq, if_neg (by omega)]
  rw [e, m, if_neg (by omega), if_neg (by omega)]
  exact core_eq x h0 h1
theorem CosineOf_mid (x y : Int) (h0 : 0 ≤ x) (h1 : x < 1296000) (k : Nat) (hy : y = mn x (wrap64 (1296000 - x))) :
    (if y > 324000 then ((pileref1_CosineOf.f (k + 1) (wrap64 (648000 - y))).bind fun t => (some (wrap64 (-t)))) else (if (wrap64 (419904000000 + (wrap64 (y * y)))) = 0 then (none) else (some (wrap64 (Int.tdiv (wrap64 ((wrap64 (419904000000 - (wrap64 ((wrap64 (4 * y)) * y)))) * 1000000)) (wrap64 (419904000000 + (wrap64 (y * y))))))))) =
    some (if x > 648000 then (if 1296000 - x > 324000 then -(cosQ (648000 - (1296000 - x))) else cosQ (1296000 - x)) else (if x > 324000 then -(cosQ (648000 - x)) else cosQ x)) := by
  rw [wrap_id (by omega) (by omega), mn_eq] at hy
  by_cases c : x > 648000
  · rw [if_pos c]
    rw [if_pos (by omega)] at hy
    subst hy
    by_cases d : 1296000 - x > 324000
    · have hb := cosQ_bd (648000 - (1296000 - x)) (by omega) (by omega)
      rw [if_pos d, if_pos d, wrap_id (by omega) (by omega), CosineOf_low _ (by omega) (by omega)]
      simp only [Option.bind_some]
      rw [wrap_id (by omega) (by omega)]
    · rw [if_neg d, if_neg d]
      exact core_eq _ (by omega) (by omega)
  · rw [if_neg c]
    rw [if_neg (by omega)] at hy
    subst hy
    by_cases d : y > 324000
    · have hb := cosQ_bd (648000 - y) (by omega) (by omega)
      rw [if_pos d, if_pos d, wrap_id (by omega) (by omega), CosineOf_low _ (by omega) (by omega)]
      simp only [Option.bind_some]
      rw [wrap_id (by omega) (by omega)]
    · rw [if_neg d, if_neg d]
      exact core_eq _ (by omega) (by omega)
theorem CosineOf_eq (a : Int) (k : Nat) : pileref1_CosineOf.f (k + 2) a = some (cosV a) := by
  have m0 : 0 ≤ a % 1296000 := Int.emod_nonneg _ (by omega)
  have m1 : a % 1296000 < 1296000 := Int.emod_lt_of_pos _ (by omega)
  rw [pileref1_CosineOf.f]
  unfold cosV
  by_cases c : Int.tmod a 1296000 < 0
  · have e : wrap64 (Int.tmod a 1296000 + 1296000) = a % 1296000 := by
      have ha : a < 0 := by
        by_cases h : 0 ≤ a
        · rw [tmod_pos h] at c; omega
        · omega
      rw [tmod_neg (by omega)] at c ⊢
      rw [wrap_id (by omega) (by omega)]; omega
    rw [if_pos c, e]
    generalize a % 1296000 = x at *
    exact CosineOf_mid x _ m0 m1 k rfl
  · have e : Int.tmod a 1296000 = a % 1296000 := by
      by_cases h : 0 ≤ a
      · exact tmod_pos h
      · rw [tmod_neg (by omega)] at c ⊢; omega
    rw [if_neg c, e]
    generalize a % 1296000 = x at *
    exact CosineOf_mid x _ m0 m1 k rfl
end Go.Proofs.Ytonnpocamipbiaa.PPlacesApart
