/- The types of this program that its functions name, and what is known of its variables. -/
import Derived.Test.YtgcffkjajngmiaaDoorEvB
import Derived.Test.YtgcffkjajngmiaaDoorProg
import Derived.Test.YtgcffkjajngmiaaDoorChecked
import Derived.Test.YtgcffkjajngmiaaDoorWShelf
import Derived.Lib.SplitLaws
import Derived.Shelf.Strings.SlTrimAscii
set_option linter.unusedVariables false
set_option linter.unusedSimpArgs false
namespace Go.EV
open Go Go.Proofs
noncomputable def tyL : List (Nat × TI) := [(3, ⟨Tryd.t3.desc, Tryd.t3⟩), (4, ⟨Tryd.t4.desc, Tryd.t4⟩), (5, ⟨Tryd.t5.desc, Tryd.t5⟩), (9, ⟨Tryd.t9.desc, Tryd.t9⟩), (21, ⟨Tryd.t21.desc, Tryd.t21⟩), (22, ⟨Tryd.t22.desc, Tryd.t22⟩), (23, ⟨Tryd.t23.desc, Tryd.t23⟩), (24, ⟨Tryd.t24.desc, Tryd.t24⟩), (25, ⟨Tryd.t24.desc, Tryd.t25⟩), (27, ⟨Tryd.t27.desc, Tryd.t27⟩), (28, ⟨Tryd.t27.desc, Tryd.t28⟩), (31, ⟨Tryd.t3.desc, Tryd.t31⟩), (55, ⟨Tryd.t55.desc, Tryd.t55⟩), (56, ⟨Tryd.t55.desc, Tryd.t56⟩), (57, ⟨Tryd.t57.desc, Tryd.t57⟩), (68, ⟨Tryd.t68.desc, Tryd.t68⟩), (69, ⟨Tryd.t68.desc, Tryd.t69⟩), (78, ⟨Tryd.t78.desc, Tryd.t78⟩), (81, ⟨Tryd.t81.desc, Tryd.t81⟩), (83, ⟨Tryd.t83.desc, Tryd.t83⟩), (88, ⟨Tryd.t88.desc, Tryd.t88⟩), (89, ⟨Tryd.t89.desc, Tryd.t89⟩), (92, ⟨Tryd.t92.desc, Tryd.t92⟩), (96, ⟨Tryd.t96.desc, Tryd.t96⟩), (98, ⟨Tryd.t98.desc, Tryd.t98⟩), (99, ⟨Tryd.t98.desc, Tryd.t99⟩), (105, ⟨Tryd.t105.desc, Tryd.t105⟩), (106, ⟨Tryd.t106.desc, Tryd.t106⟩), (107, ⟨Tryd.t106.desc, Tryd.t107⟩), (108, ⟨Tryd.t108.desc, Tryd.t108⟩), (111, ⟨Tryd.t111.desc, Tryd.t111⟩), (112, ⟨Tryd.t112.desc, Tryd.t112⟩), (113, ⟨Tryd.t112.desc, Tryd.t113⟩), (115, ⟨Tryd.t115.desc, Tryd.t115⟩), (116, ⟨Tryd.t116.desc, Tryd.t116⟩), (117, ⟨Tryd.t117.desc, Tryd.t117⟩), (118, ⟨Tryd.t118.desc, Tryd.t118⟩), (119, ⟨Tryd.t118.desc, Tryd.t119⟩), (120, ⟨Tryd.t120.desc, Tryd.t120⟩), (121, ⟨Tryd.t121.desc, Tryd.t121⟩), (122, ⟨Tryd.t121.desc, Tryd.t122⟩), (124, ⟨Tryd.t124.desc, Tryd.t124⟩), (125, ⟨Tryd.t124.desc, Tryd.t125⟩)]
theorem tyOK : TyOK Tryd.prog (lookT tyL) := lookT_ok ⟨⟨Tryd.underlying3, info_of Tryd.type3, fun h => nomatch h⟩, ⟨Tryd.underlying4, info_of Tryd.type4, fun h => nomatch h⟩, ⟨Tryd.underlying5, info_of Tryd.type5, fun h => nomatch h⟩, ⟨Tryd.underlying9, info_of Tryd.type9, fun h => nomatch h⟩, ⟨Tryd.underlying21, info_of Tryd.type21, fun h => nomatch h⟩, ⟨Tryd.underlying22, info_of Tryd.type22, fun h => nomatch h⟩, ⟨Tryd.underlying23, info_of Tryd.type23, fun h => nomatch h⟩, ⟨Tryd.underlying24, info_of Tryd.type24, fun _ => ⟨by kernel_rfl, by kernel_rfl⟩⟩, ⟨Tryd.underlying25, info_of Tryd.type25, fun _ => ⟨by kernel_rfl, by kernel_rfl⟩⟩, ⟨Tryd.underlying27, info_of Tryd.type27, fun _ => ⟨by kernel_rfl, by kernel_rfl⟩⟩, ⟨Tryd.underlying28, info_of Tryd.type28, fun _ => ⟨by kernel_rfl, by kernel_rfl⟩⟩, ⟨Tryd.underlying31, info_of Tryd.type31, fun h => nomatch h⟩, ⟨Tryd.underlying55, info_of Tryd.type55, fun _ => ⟨by kernel_rfl, by kernel_rfl⟩⟩, ⟨Tryd.underlying56, info_of Tryd.type56, fun _ => ⟨by kernel_rfl, by kernel_rfl⟩⟩, ⟨Tryd.underlying57, info_of Tryd.type57, fun h => nomatch h⟩, ⟨Tryd.underlying68, info_of Tryd.type68, fun _ => ⟨by kernel_rfl, by kernel_rfl⟩⟩, ⟨Tryd.underlying69, info_of Tryd.type69, fun _ => ⟨by kernel_rfl, by kernel_rfl⟩⟩, ⟨Tryd.underlying78, info_of Tryd.type78, fun h => nomatch h⟩, ⟨Tryd.underlying81, info_of Tryd.type81, fun h => nomatch h⟩, ⟨Tryd.underlying83, info_of Tryd.type83, fun h => nomatch h⟩, ⟨Tryd.underlying88, info_of Tryd.type88, fun h => nomatch h⟩, ⟨Tryd.underlying89, info_of Tryd.type89, fun h => nomatch h⟩, ⟨Tryd.underlying92, info_of Tryd.type92, fun h => nomatch h⟩, ⟨Tryd.underlying96, info_of Tryd.type96, fun h => nomatch h⟩, ⟨Tryd.underlying98, info_of Tryd.type98, fun _ => ⟨by kernel_rfl, by kernel_rfl⟩⟩, ⟨Tryd.underlying99, info_of Tryd.type99, fun _ => ⟨by kernel_rfl, by kernel_rfl⟩⟩, ⟨Tryd.underlying105, info_of Tryd.type105, fun _ => ⟨by kernel_rfl, by kernel_rfl⟩⟩, ⟨Tryd.underlying106, info_of Tryd.type106, fun _ => ⟨by kernel_rfl, by kernel_rfl⟩⟩, ⟨Tryd.underlying107, info_of Tryd.type107, fun _ => ⟨by kernel_rfl, by kernel_rfl⟩⟩, ⟨Tryd.underlying108, info_of Tryd.type108, fun _ => ⟨by kernel_rfl, by kernel_rfl⟩⟩, ⟨Tryd.underlying111, info_of Tryd.type111, fun h => nomatch h⟩, ⟨Tryd.underlying112, info_of Tryd.type112, fun _ => ⟨by kernel_rfl, by kernel_rfl⟩⟩, ⟨Tryd.underlying113, info_of Tryd.type113, fun _ => ⟨by kernel_rfl, by kernel_rfl⟩⟩, ⟨Tryd.underlying115, info_of Tryd.type115, fun h => nomatch h⟩, ⟨Tryd.underlying116, info_of Tryd.type116, fun h => nomatch h⟩, ⟨Tryd.underlying117, info_of Tryd.type117, fun h => nomatch h⟩, ⟨Tryd.underlying118, info_of Tryd.type118, fun _ => ⟨by kernel_rfl, by kernel_rfl⟩⟩, ⟨Tryd.underlying119, info_of Tryd.type119, fun _ => ⟨by kernel_rfl, by kernel_rfl⟩⟩, ⟨Tryd.underlying120, info_of Tryd.type120, fun h => nomatch h⟩, ⟨Tryd.underlying121, info_of Tryd.type121, fun _ => ⟨by kernel_rfl, by kernel_rfl⟩⟩, ⟨Tryd.underlying122, info_of Tryd.type122, fun _ => ⟨by kernel_rfl, by kernel_rfl⟩⟩, ⟨Tryd.underlying124, info_of Tryd.type124, fun _ => ⟨by kernel_rfl, by kernel_rfl⟩⟩, ⟨Tryd.underlying125, info_of Tryd.type125, fun _ => ⟨by kernel_rfl, by kernel_rfl⟩⟩, trivial⟩
end Go.EV
namespace Go.EV
open Go Go.Proofs Go.RowKit
set_option maxHeartbeats 4000000
set_option maxRecDepth 100000
set_option linter.unusedVariables false
theorem mixedOK : Tryd.prog.follows .mixedOrders = true := Tryd.checked.mixed
noncomputable def B : Bs := blkB [0] (fun w => (∃ m, w.cell? ⟨0, 0, none⟩ = some (.int .i64 m)))
  (fun w w' h ⟨m, h1⟩ => ⟨m, by rw [cell_eq (h 0 (by simp))]; exact h1⟩)
theorem hbML {g : G} {w : World} (hb : B.p g w) : ∃ m, w.cell? ⟨0, 0, none⟩ = some (.int .i64 m) := hb.2
noncomputable def fam {ρ : Type} (fn : Func) (cut : List Nat) (own : List Nat) (L0 : List (Nat × Ob)) (V : ρ → AV) (O : ρ → List (Nat × Ob)) : Fam ρ :=
  ⟨Tryd.prog, ⟨lookT tyL, fun i => own.any (Nat.beq i), fn.ntmps, fun i => cut.any (Nat.beq i)⟩, fn, L0, V, O, tyOK, mixedOK, B⟩
def rd (l : List Int) (i : Int) : Int := l.getD i.toNat 0
def rdE {α : Type} (E : Enc α) (l : List α) (i : Int) : α := l.getD i.toNat E.d
theorem B_of {W : World} (hsh : W.ShapedOpen Tryd.prog)  : ∀ g : G, (∀ b, ¬ g.own b) → B.p g W := fun g hg => by
  obtain ⟨m, hm⟩ := Tryd.laysM219.s1_3 W hsh
  have hm : W.cell? ⟨0, 0, none⟩ = some (.int .i64 m) := hm
  refine ⟨fun b hb => ⟨?_, hg b⟩, ⟨m, hm⟩⟩
  have h0 : 0 < W.heap.size := by
    unfold World.cell? at hm
    cases e : W.heap[0]? with
    | none => rw [show (⟨0, 0, none⟩ : Addr).block = 0 from rfl, e] at hm; cases hm
    | some _ => exact (Array.getElem?_eq_some_iff.1 e).1
  simp only [List.mem_cons, List.not_mem_nil, or_false] at hb
  rcases hb with rfl
  · exact h0
end Go.EV
