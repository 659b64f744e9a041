/- Small laws of this session's own, for the texts that the turned printer writes: a call of a function value that stands in a variable. -/
import Derived.Test.YtacgcamgfkjbiaaVHoursCountedLast
import Derived.Test.YtacgcamgfkjbiaaVHoursCountedMore
namespace Go.Proofs.YtacgcamgfkjbiaaW.PrintOwn
open Go.Proofs.YtacgcamgfkjbiaaW.PrintLast
section
end
end Go.Proofs.YtacgcamgfkjbiaaW.PrintOwn
namespace Go.Proofs.YtacgcamgfkjbiaaW.PrintWords
/-- A world, some steps behind another one, that only draw or make blocks. -/
class Peel (w0 w : World) : Prop where
  blk : ∀ (g : Nat) (o : Obj), w0.heap[g]? = some o → w.heap[g]? = some o
  row : ∀ {α : Type} (d : Kd α) (e base : Nat) (ok : Nat → Prop) (v : Value) (xs : List α), d.R e w0 base ok v xs → d.R e w base ok v xs
instance Peel.refl (w : World) : Peel w w := ⟨fun _ _ h => h, fun _ _ _ _ _ _ h => h⟩
instance Peel.drew (w0 w : World) [h : Peel w0 w] : Peel w0 w.drew := ⟨fun g o k => blk_drew (h.blk g o k), fun d e base ok v xs k => Kd.R_drew (h.row d e base ok v xs k)⟩
instance Peel.drewN (w0 w : World) (n : Nat) [h : Peel w0 w] : Peel w0 (w.drewN n) := ⟨fun g o k => blk_drewN (h.blk g o k) n, fun d e base ok v xs k => Kd.R_drewN (h.row d e base ok v xs k) n⟩
instance Peel.alloc (w0 w : World) (o : Obj) [h : Peel w0 w] : Peel w0 (w.alloc o) := ⟨fun g o' k => blk_alloc (h.blk g o' k) o, fun d e base ok v xs k => Kd.R_alloc (h.row d e base ok v xs k) o⟩
theorem blk_up {w0 w : World} [h : Peel w0 w] {g : Nat} {o : Obj} (k : w0.heap[g]? = some o) : w.heap[g]? = some o := h.blk g o k
theorem Kd.R_up {w0 w : World} [h : Peel w0 w] {α : Type} {d : Kd α} {e base : Nat} {ok : Nat → Prop} {v : Value} {xs : List α} (k : d.R e w0 base ok v xs) : d.R e w base ok v xs := h.row d e base ok v xs k
end Go.Proofs.YtacgcamgfkjbiaaW.PrintWords
