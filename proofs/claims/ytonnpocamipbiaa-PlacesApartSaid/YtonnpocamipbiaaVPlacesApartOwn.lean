/- Small laws of this session's own, for the texts that the turned printer writes: a call of a function value that stands in a variable. -/
import Derived.Test.YtonnpocamipbiaaVPlacesApartLast
import Derived.Test.YtonnpocamipbiaaVPlacesApartMore
import Derived.ChangeKeysEq
import Derived.Laws.RangeAny
import Derived.Lib.OthersKept
import Derived.WalkSpells
namespace Go.Proofs.YtonnpocamipbiaaW.PrintOwn
open Go.Proofs.YtonnpocamipbiaaW.PrintLast
section
end
@[go_sem] theorem run_makeFunc' (P : Program) (fn : Fn) (first cap : Array Value) (w : World) : (Instr.makeFunc fn first cap).run P w = .ok (.func fn first cap) w := rfl
@[go_sem] theorem events_makeFunc' (P : Program) (fn : Fn) (first cap : Array Value) (w : World) (es : Array Event) : (Instr.makeFunc fn first cap).events P w es = es := rfl
section
variable {P : Program}
theorem u8_w (x : Int) : IntKind.u8.wrap x = x % 256 := by simp [IntKind.wrap, IntKind.bits, IntKind.signed]
theorem mod_in64 (x : Int) : Go.RowKit.wrap64 (x % 256) = x % 256 := by unfold Go.RowKit.wrap64; omega
theorem cells_of {e : TypeId} {i : TypeInfo} (hi : P.info? e = some i) {n : Nat} (hs : ∀ w, (sizeOf e).run P w = .ok n w) (w : World) : P.cellsOf e = n := by
  have h := hs w
  rw [run_sizeOf w hi] at h
  injection h
theorem eq_item {d : Nat} {e : TypeId} (he : P.underlying e = some (.int .i64)) (w : World) {xs ys : Array Value} {j : Nat} {js : List Nat} {x y : Int} {r : Bool} (hx : xs[j]? = some (.int .i64 x)) (hy : ys[j]? = some (.int .i64 y)) (h : (Op.eqItems (d + 1) e 1 xs ys js).run P w = .ok r w) :
    (Op.eqItems (d + 1) e 1 xs ys (j :: js)).run P w = .ok (x == y && r) w := by
  have hp : P.plainKey e = true := by simp [Program.plainKey, he]
  simp only [Op.eqItems, Sem.run_bind, Nat.mul_one, run_part_plain w hp hx, run_part_plain w hp hy, Result.andThen_ok, run_equalIn_int w d e .i64 .i64 x y he]
  cases x == y
  · simp
  · simpa using h
theorem eqA_arr2 {t e : TypeId} (hu : P.underlying t = some (.array 2 e)) (he : P.underlying e = some (.int .i64)) (hs : ∀ w, (sizeOf e).run P w = .ok 1 w) {d : Nat} {w : World} {x0 y0 x1 y1 : Int} :
    (Op.equalIn (d + 2) t (.agg #[.int .i64 x0, .int .i64 x1]) (.agg #[.int .i64 y0, .int .i64 y1])).run P w = .ok (x0 == y0 && (x1 == y1)) w := by
  obtain ⟨i, hi⟩ := info_of_underlying he
  rw [run_equalIn_array w (d + 1) _ _ hu hi, cells_of hi hs w]
  refine eq_item (d := d) he w rfl rfl (j := 0) (js := [1]) ?_
  have h := eq_item (d := d) he w (xs := #[.int .i64 x0, .int .i64 x1]) (ys := #[.int .i64 y0, .int .i64 y1]) (j := 1) (js := []) rfl rfl (r := true) (by simp [Op.eqItems])
  rw [Bool.and_true] at h
  exact h
end
end Go.Proofs.YtonnpocamipbiaaW.PrintOwn
namespace Go.Proofs.YtonnpocamipbiaaW.PrintWords
/-- A world, some steps behind another one, that only draw or make blocks. -/
class Peel (w0 w : World) : Prop where
  blk : ∀ (g : Nat) (o : Obj), w0.heap[g]? = some o → w.heap[g]? = some o
  row : ∀ {α : Type} (d : Kd α) (e base : Nat) (ok : Nat → Prop) (v : Value) (xs : List α), d.R e w0 base ok v xs → d.R e w base ok v xs
instance Peel.refl (w : World) : Peel w w := ⟨fun _ _ h => h, fun _ _ _ _ _ _ h => h⟩
instance Peel.drew (w0 w : World) [h : Peel w0 w] : Peel w0 w.drew := ⟨fun g o k => blk_drew (h.blk g o k), fun d e base ok v xs k => Kd.R_drew (h.row d e base ok v xs k)⟩
instance Peel.drewN (w0 w : World) (n : Nat) [h : Peel w0 w] : Peel w0 (w.drewN n) := ⟨fun g o k => blk_drewN (h.blk g o k) n, fun d e base ok v xs k => Kd.R_drewN (h.row d e base ok v xs k) n⟩
instance Peel.alloc (w0 w : World) (o : Obj) [h : Peel w0 w] : Peel w0 (w.alloc o) := ⟨fun g o' k => blk_alloc (h.blk g o' k) o, fun d e base ok v xs k => Kd.R_alloc (h.row d e base ok v xs k) o⟩
theorem blk_up {w0 w : World} [h : Peel w0 w] {g : Nat} {o : Obj} (k : w0.heap[g]? = some o) : w.heap[g]? = some o := h.blk g o k
theorem Kd.R_up {w0 w : World} [h : Peel w0 w] {α : Type} {d : Kd α} {e base : Nat} {ok : Nat → Prop} {v : Value} {xs : List α} (k : d.R e w0 base ok v xs) : d.R e w base ok v xs := h.row d e base ok v xs k
end Go.Proofs.YtonnpocamipbiaaW.PrintWords
