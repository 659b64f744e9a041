/- Plain laws of distances, winds and ways: the program's and the document's come to the same. -/
import Derived.Test.YtonnpocamipbiaaLPlacesApartcos
namespace Go.Proofs.Ytonnpocamipbiaa.PPlacesApart
open Go.RowKit Go.Proofs.YtonnpocamipbiaaW.PrintWords Go.Proofs.YtonnpocamipbiaaW.PrintLast
set_option linter.unusedSimpArgs false
theorem tdiv_bd (a n : Int) (h : 1 ≤ n) (c : Int) (h0 : -c ≤ a) (h1 : a ≤ c) : -c ≤ Int.tdiv a n ∧ Int.tdiv a n ≤ c := by
  by_cases s : 0 ≤ a
  · rw [tdiv_pos s]
    have := Int.ediv_le_self n s
    have := Int.ediv_nonneg s (show 0 ≤ n by omega)
    omega
  · rw [tdiv_neg (a := a) (by omega)]
    have := Int.ediv_le_self n (show 0 ≤ -a by omega)
    have := Int.ediv_nonneg (show 0 ≤ -a by omega) (show 0 ≤ n by omega)
    omega
/-- An angle to the east, taken around the world. -/
def aroundV (a : Int) : Int := (a + 648000) % 1296000 - 648000
theorem aroundV_bd (a : Int) : -648000 ≤ aroundV a ∧ aroundV a ≤ 647999 := by unfold aroundV; omega
theorem around_eq (a : Int) (h0 : -1099511627776 ≤ a) (h1 : a ≤ 1099511627776) : place_around.f a = some (aroundV a) := by
  unfold place_around.f aroundV
  rw [wrap_id (e := a + 648000) (by omega) (by omega)]
  have h : Int.tmod (wrap64 (Int.tmod (a + 648000) 1296000 + 1296000)) 1296000 = (a + 648000) % 1296000 := cosine_mod _
  rw [h, wrap_id (by omega) (by omega)]
theorem aroundOf_eq (a : Int) (h0 : -1099511627776 ≤ a) (h1 : a ≤ 1099511627776) : pileref1_around.f a = some (aroundV a) := by
  unfold pileref1_around.f aroundV
  rw [wrap_id (e := a + 648000) (by omega) (by omega)]
  by_cases s : 0 ≤ a + 648000
  · rw [tmod_pos s, if_neg (by omega), wrap_id (by omega) (by omega)]
  · rw [tmod_neg (a := a + 648000) (by omega)]
    by_cases z : -(-(a + 648000) % 1296000) < 0
    · rw [if_pos z, wrap_id (e := -(-(a + 648000) % 1296000) + 1296000) (by omega) (by omega), wrap_id (by omega) (by omega), Option.some.injEq]
      omega
    · rw [if_neg z, wrap_id (by omega) (by omega), Option.some.injEq]
      omega
/-- A site that may be. -/
def Right (n e : Int) : Prop := (-324000 ≤ n ∧ n ≤ 324000) ∧ -648000 ≤ e ∧ e ≤ 647999
/-- So many seconds to the north, in metres. -/
def northV (dn : Int) : Int := Int.tdiv (dn * 10000000) 324000
/-- So many seconds to the east at some angle to the north, in metres. -/
def eastV (de m : Int) : Int := Int.tdiv (Int.tdiv (de * cosV m) 1000000 * 10000000) 324000
theorem northV_bd (dn : Int) (h : -648000 ≤ dn ∧ dn ≤ 648000) : -20000000 ≤ northV dn ∧ northV dn ≤ 20000000 := by
  unfold northV
  by_cases s : 0 ≤ dn * 10000000
  · rw [tdiv_pos s]; omega
  · rw [tdiv_neg (a := dn * 10000000) (by omega)]; omega
theorem mul_bd (a b A B : Int) (hA : 0 ≤ A) (_hB : 0 ≤ B) (ha : -A ≤ a ∧ a ≤ A) (hb : -B ≤ b ∧ b ≤ B) : -(A * B) ≤ a * b ∧ a * b ≤ A * B := by
  have h1 : (a.natAbs : Int) ≤ A := by omega
  have h2 : (b.natAbs : Int) ≤ B := by omega
  have h3 : (a.natAbs : Int) * (b.natAbs : Int) ≤ A * B := Int.mul_le_mul h1 h2 (by omega) hA
  have h4 : ((a * b).natAbs : Int) = (a.natAbs : Int) * (b.natAbs : Int) := by rw [Int.natAbs_mul]; push_cast; rfl
  omega
theorem east_mid (de m : Int) (h : -648000 ≤ de ∧ de ≤ 648000) : (-648000000000 ≤ de * cosV m ∧ de * cosV m ≤ 648000000000) ∧ -648000 ≤ Int.tdiv (de * cosV m) 1000000 ∧ Int.tdiv (de * cosV m) 1000000 ≤ 648000 := by
  have hc := cosV_bd m
  have hb := mul_bd de (cosV m) 648000 1000000 (by omega) (by omega) h hc
  refine ⟨by omega, ?_⟩
  by_cases s : 0 ≤ de * cosV m
  · rw [tdiv_pos s]; omega
  · rw [tdiv_neg (a := de * cosV m) (by omega)]; omega
theorem eastV_bd (de m : Int) (h : -648000 ≤ de ∧ de ≤ 648000) : -20000000 ≤ eastV de m ∧ eastV de m ≤ 20000000 := by
  obtain ⟨_, h2⟩ := east_mid de m h
  exact northV_bd _ h2
/-- How far b is from a: to the north and to the east. -/
def metresV (an ae bn be : Int) : Int × Int := (northV (bn - an), eastV (aroundV (be - ae)) (Int.tdiv (an + bn) 2))
theorem north_raw (dn : Int) (h : -648000 ≤ dn ∧ dn ≤ 648000) : wrap64 (Int.tdiv (wrap64 (dn * 10000000)) 324000) = northV dn := by
  have := northV_bd dn h
  unfold northV at *
  rw [wrap_id (e := dn * 10000000) (by omega) (by omega), wrap_id (by omega) (by omega)]
theorem east_raw (de m : Int) (h : -648000 ≤ de ∧ de ≤ 648000) : wrap64 (Int.tdiv (wrap64 ((wrap64 (Int.tdiv (wrap64 (de * cosV m)) 1000000)) * 10000000)) 324000) = eastV de m := by
  obtain ⟨h1, h2⟩ := east_mid de m h
  rw [wrap_id (e := de * cosV m) (by omega) (by omega), wrap_id (e := Int.tdiv (de * cosV m) 1000000) (by omega) (by omega), north_raw _ h2]
  rfl
theorem between_eq (an ae bn be : Int) (ha : Right an ae) (hb : Right bn be) : place_between.f an ae bn be = some (bn - an, aroundV (be - ae)) := by
  unfold Right at ha hb
  unfold place_between.f
  rw [wrap_id (e := be - ae) (by omega) (by omega), around_eq _ (by omega) (by omega), Option.bind_some, wrap_id (by omega) (by omega)]
theorem metres_ev (an ae bn be : Int) (ha : Right an ae) (hb : Right bn be) : Ev (fun k => place_inMetres.f k an ae bn be) (metresV an ae bn be) := by
  refine ⟨2, fun k hk => ?_⟩
  obtain ⟨k, rfl⟩ : ∃ m, k = m + 2 := ⟨k - 2, by omega⟩
  have hr := aroundV_bd (be - ae)
  simp only [place_inMetres.f, between_eq an ae bn be ha hb, Option.bind_some, cosine_eq]
  unfold Right at ha hb
  have ht := tdiv_bd (an + bn) 2 (by omega) 648000 (by omega) (by omega)
  rw [wrap_id (e := an + bn) (by omega) (by omega), wrap_id (e := Int.tdiv (an + bn) 2) (by omega) (by omega), north_raw _ (by omega), east_raw _ _ (by omega)]
  rfl
theorem apart_ev (an ae bn be : Int) (ha : Right an ae) (hb : Right bn be) : Ev (fun k => pileref1_apart.f k an ae bn be) (bn - an, aroundV (be - ae), (metresV an ae bn be).1, (metresV an ae bn be).2) := by
  refine ⟨2, fun k hk => ?_⟩
  obtain ⟨k, rfl⟩ : ∃ m, k = m + 2 := ⟨k - 2, by omega⟩
  have hr := aroundV_bd (be - ae)
  unfold Right at ha hb
  have ht := tdiv_bd (an + bn) 2 (by omega) 648000 (by omega) (by omega)
  unfold pileref1_apart.f
  rw [wrap_id (e := be - ae) (by omega) (by omega), aroundOf_eq _ (by omega) (by omega)]
  simp only [Option.bind_some, CosineOf_eq]
  rw [wrap_id (e := an + bn) (by omega) (by omega), wrap_id (e := Int.tdiv (an + bn) 2) (by omega) (by omega), wrap_id (e := bn - an) (by omega) (by omega), north_raw _ (by omega), east_raw _ _ (by omega)]
  rfl
theorem metres_bd (an ae bn be : Int) (ha : Right an ae) (hb : Right bn be) : (-20000000 ≤ (metresV an ae bn be).1 ∧ (metresV an ae bn be).1 ≤ 20000000) ∧ -20000000 ≤ (metresV an ae bn be).2 ∧ (metresV an ae bn be).2 ≤ 20000000 := by
  have hr := aroundV_bd (be - ae)
  unfold Right at ha hb
  exact ⟨northV_bd _ (by omega), eastV_bd _ _ (by omega)⟩
theorem root_both (x : Int) (n : Nat) : ∀ a b : Int, 0 ≤ a → a ≤ b → b ≤ 2147483648 → b - a ≤ n → ∃ r, Ev (fun k => place_root.l0 k x a b) r ∧ Ev (fun k => pileref1_root.l0 k x a b) r := by
  induction n with
  | zero =>
    intro a b h0 h1 h2 h3
    refine ⟨a, Ev.step (f := fun _ => some _) (fun k => ?_) (Ev.now _), Ev.step (f := fun _ => some _) (fun k => ?_) (Ev.now _)⟩
    · simp only [place_root.l0]
      rw [wrap_id (e := a + 1) (by omega) (by omega), if_neg (by omega)]
    · simp only [pileref1_root.l0]
      rw [wrap_id (e := b - 1) (by omega) (by omega), if_neg (by omega)]
  | succ n ih =>
    intro a b h0 h1 h2 h3
    by_cases c : a + 1 < b
    · have hm : wrap64 (Int.tdiv (wrap64 (a + b)) 2) = (a + b) / 2 := by
        rw [wrap_id (e := a + b) (by omega) (by omega), tdiv_pos (by omega), wrap_id (by omega) (by omega)]
      by_cases d : wrap64 ((a + b) / 2 * ((a + b) / 2)) ≤ x
      · obtain ⟨r, r1, r2⟩ := ih ((a + b) / 2) b (by omega) (by omega) h2 (by omega)
        refine ⟨r, Ev.step (fun k => ?_) r1, Ev.step (fun k => ?_) r2⟩
        · simp only [place_root.l0]
          rw [wrap_id (e := a + 1) (by omega) (by omega), if_pos c, hm, if_pos d]
        · simp only [pileref1_root.l0]
          rw [wrap_id (e := b - 1) (by omega) (by omega), if_pos (by omega), hm, if_pos d]
      · obtain ⟨r, r1, r2⟩ := ih a ((a + b) / 2) (by omega) (by omega) (by omega) (by omega)
        refine ⟨r, Ev.step (fun k => ?_) r1, Ev.step (fun k => ?_) r2⟩
        · simp only [place_root.l0]
          rw [wrap_id (e := a + 1) (by omega) (by omega), if_pos c, hm, if_neg d]
        · simp only [pileref1_root.l0]
          rw [wrap_id (e := b - 1) (by omega) (by omega), if_pos (by omega), hm, if_neg d]
    · refine ⟨a, Ev.step (f := fun _ => some _) (fun k => ?_) (Ev.now _), Ev.step (f := fun _ => some _) (fun k => ?_) (Ev.now _)⟩
      · simp only [place_root.l0]
        rw [wrap_id (e := a + 1) (by omega) (by omega), if_neg c]
      · simp only [pileref1_root.l0]
        rw [wrap_id (e := b - 1) (by omega) (by omega), if_neg (by omega)]
theorem dist_both (an ae bn be : Int) (ha : Right an ae) (hb : Right bn be) : ∃ r, Ev (fun k => place_distance.f k an ae bn be) r ∧ Ev (fun k => pileref1_DistanceOf.f k an ae bn be) r := by
  obtain ⟨r, r1, r2⟩ := root_both (wrap64 ((wrap64 ((metresV an ae bn be).1 * (metresV an ae bn be).1)) + (wrap64 ((metresV an ae bn be).2 * (metresV an ae bn be).2)))) 2147483648 0 2147483648 (by omega) (by omega) (by omega) (by omega)
  exact ⟨r, Ev.bind (metres_ev an ae bn be ha hb) (Ev.bind r1 (Ev.now _)), Ev.bind (apart_ev an ae bn be ha hb) (Ev.bind r2 (Ev.now _))⟩
end Go.Proofs.Ytonnpocamipbiaa.PPlacesApart
