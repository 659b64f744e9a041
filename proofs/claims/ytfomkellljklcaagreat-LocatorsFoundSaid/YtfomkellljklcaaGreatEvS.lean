/- The types of this program that its functions name, and what is known of its variables. -/
import Derived.Test.YtfomkellljklcaaGreatEvC
import Derived.Test.YtfomkellljklcaaGreatProg
import Derived.Test.YtfomkellljklcaaGreatChecked
import Derived.Test.YtfomkellljklcaaGreatWShelf
import Derived.Lib.SplitLaws
set_option linter.unusedVariables false
set_option linter.unusedSimpArgs false
namespace Go.EV
open Go Go.Proofs
noncomputable def tyL : List (Nat × TI) := [(3, ⟨Tryz.t3.desc, Tryz.t3⟩), (4, ⟨Tryz.t4.desc, Tryz.t4⟩), (5, ⟨Tryz.t5.desc, Tryz.t5⟩), (9, ⟨Tryz.t9.desc, Tryz.t9⟩), (21, ⟨Tryz.t21.desc, Tryz.t21⟩), (22, ⟨Tryz.t22.desc, Tryz.t22⟩), (23, ⟨Tryz.t23.desc, Tryz.t23⟩), (24, ⟨Tryz.t24.desc, Tryz.t24⟩), (25, ⟨Tryz.t24.desc, Tryz.t25⟩), (26, ⟨Tryz.t26.desc, Tryz.t26⟩), (27, ⟨Tryz.t26.desc, Tryz.t27⟩), (31, ⟨Tryz.t31.desc, Tryz.t31⟩), (34, ⟨Tryz.t3.desc, Tryz.t34⟩), (37, ⟨Tryz.t37.desc, Tryz.t37⟩), (38, ⟨Tryz.t38.desc, Tryz.t38⟩), (39, ⟨Tryz.t38.desc, Tryz.t39⟩), (67, ⟨Tryz.t67.desc, Tryz.t67⟩), (68, ⟨Tryz.t67.desc, Tryz.t68⟩), (69, ⟨Tryz.t69.desc, Tryz.t69⟩), (71, ⟨Tryz.t71.desc, Tryz.t71⟩), (73, ⟨Tryz.t73.desc, Tryz.t73⟩), (75, ⟨Tryz.t75.desc, Tryz.t75⟩), (76, ⟨Tryz.t76.desc, Tryz.t76⟩), (78, ⟨Tryz.t78.desc, Tryz.t78⟩), (80, ⟨Tryz.t80.desc, Tryz.t80⟩), (81, ⟨Tryz.t80.desc, Tryz.t81⟩), (88, ⟨Tryz.t88.desc, Tryz.t88⟩), (89, ⟨Tryz.t89.desc, Tryz.t89⟩), (94, ⟨Tryz.t3.desc, Tryz.t94⟩), (102, ⟨Tryz.t102.desc, Tryz.t102⟩), (104, ⟨Tryz.t104.desc, Tryz.t104⟩), (112, ⟨Tryz.t104.desc, Tryz.t112⟩), (116, ⟨Tryz.t116.desc, Tryz.t116⟩)]
theorem tyOK : TyOK Tryz.prog (lookT tyL) := lookT_ok ⟨⟨Tryz.underlying3, info_of Tryz.type3, fun h => nomatch h⟩, ⟨Tryz.underlying4, info_of Tryz.type4, fun h => nomatch h⟩, ⟨Tryz.underlying5, info_of Tryz.type5, fun h => nomatch h⟩, ⟨Tryz.underlying9, info_of Tryz.type9, fun h => nomatch h⟩, ⟨Tryz.underlying21, info_of Tryz.type21, fun h => nomatch h⟩, ⟨Tryz.underlying22, info_of Tryz.type22, fun h => nomatch h⟩, ⟨Tryz.underlying23, info_of Tryz.type23, fun h => nomatch h⟩, ⟨Tryz.underlying24, info_of Tryz.type24, fun _ => ⟨by kernel_rfl, by kernel_rfl⟩⟩, ⟨Tryz.underlying25, info_of Tryz.type25, fun _ => ⟨by kernel_rfl, by kernel_rfl⟩⟩, ⟨Tryz.underlying26, info_of Tryz.type26, fun _ => ⟨by kernel_rfl, by kernel_rfl⟩⟩, ⟨Tryz.underlying27, info_of Tryz.type27, fun _ => ⟨by kernel_rfl, by kernel_rfl⟩⟩, ⟨Tryz.underlying31, info_of Tryz.type31, fun h => nomatch h⟩, ⟨Tryz.underlying34, info_of Tryz.type34, fun h => nomatch h⟩, ⟨Tryz.underlying37, info_of Tryz.type37, fun h => nomatch h⟩, ⟨Tryz.underlying38, info_of Tryz.type38, fun _ => ⟨by kernel_rfl, by kernel_rfl⟩⟩, ⟨Tryz.underlying39, info_of Tryz.type39, fun _ => ⟨by kernel_rfl, by kernel_rfl⟩⟩, ⟨Tryz.underlying67, info_of Tryz.type67, fun _ => ⟨by kernel_rfl, by kernel_rfl⟩⟩, ⟨Tryz.underlying68, info_of Tryz.type68, fun _ => ⟨by kernel_rfl, by kernel_rfl⟩⟩, ⟨Tryz.underlying69, info_of Tryz.type69, fun h => nomatch h⟩, ⟨Tryz.underlying71, info_of Tryz.type71, fun h => nomatch h⟩, ⟨Tryz.underlying73, info_of Tryz.type73, fun h => nomatch h⟩, ⟨Tryz.underlying75, info_of Tryz.type75, fun h => nomatch h⟩, ⟨Tryz.underlying76, info_of Tryz.type76, fun h => nomatch h⟩, ⟨Tryz.underlying78, info_of Tryz.type78, fun h => nomatch h⟩, ⟨Tryz.underlying80, info_of Tryz.type80, fun h => nomatch h⟩, ⟨Tryz.underlying81, info_of Tryz.type81, fun h => nomatch h⟩, ⟨Tryz.underlying88, info_of Tryz.type88, fun h => nomatch h⟩, ⟨Tryz.underlying89, info_of Tryz.type89, fun h => nomatch h⟩, ⟨Tryz.underlying94, info_of Tryz.type94, fun h => nomatch h⟩, ⟨Tryz.underlying102, info_of Tryz.type102, fun h => nomatch h⟩, ⟨Tryz.underlying104, info_of Tryz.type104, fun h => nomatch h⟩, ⟨Tryz.underlying112, info_of Tryz.type112, fun h => nomatch h⟩, ⟨Tryz.underlying116, info_of Tryz.type116, fun h => nomatch h⟩, trivial⟩
end Go.EV
namespace Go.EV
open Go Go.Proofs Go.RowKit
set_option maxHeartbeats 4000000
set_option maxRecDepth 100000
set_option linter.unusedVariables false
theorem mixedOK : Tryz.prog.follows .mixedOrders = true := Tryz.checked.mixed
noncomputable def B : Bs := noB
noncomputable def fam {ρ : Type} (fn : Func) (cut : List Nat) (own : List Nat) (L0 : List (Nat × Ob)) (V : ρ → AV) (O : ρ → List (Nat × Ob)) : Fam ρ :=
  ⟨Tryz.prog, ⟨lookT tyL, fun i => own.any (Nat.beq i), fn.ntmps, fun i => cut.any (Nat.beq i)⟩, fn, L0, V, O, tyOK, mixedOK, B⟩
def rd (l : List Int) (i : Int) : Int := l.getD i.toNat 0
def rdE {α : Type} (E : Enc α) (l : List α) (i : Int) : α := l.getD i.toNat E.d
end Go.EV
