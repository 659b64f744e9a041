/- The types of this program that its functions name, and what is known of its variables. -/
import Derived.Test.YtmcaongkodmbjaaEvC
import Derived.Test.YtmcaongkodmbjaaProg
import Derived.Test.YtmcaongkodmbjaaChecked
import Derived.Test.YtmcaongkodmbjaaWShelf
import Derived.Lib.SplitLaws
set_option linter.unusedVariables false
set_option linter.unusedSimpArgs false
namespace Go.EV
open Go Go.Proofs
noncomputable def tyL : List (Nat × TI) := [(3, ⟨Try.t3.desc, Try.t3⟩), (4, ⟨Try.t4.desc, Try.t4⟩), (5, ⟨Try.t5.desc, Try.t5⟩), (9, ⟨Try.t9.desc, Try.t9⟩), (22, ⟨Try.t22.desc, Try.t22⟩), (23, ⟨Try.t23.desc, Try.t23⟩), (24, ⟨Try.t24.desc, Try.t24⟩), (25, ⟨Try.t24.desc, Try.t25⟩), (26, ⟨Try.t26.desc, Try.t26⟩), (27, ⟨Try.t26.desc, Try.t27⟩), (31, ⟨Try.t31.desc, Try.t31⟩), (32, ⟨Try.t31.desc, Try.t32⟩), (33, ⟨Try.t33.desc, Try.t33⟩), (36, ⟨Try.t3.desc, Try.t36⟩), (40, ⟨Try.t40.desc, Try.t40⟩), (73, ⟨Try.t73.desc, Try.t73⟩), (78, ⟨Try.t78.desc, Try.t78⟩), (79, ⟨Try.t79.desc, Try.t79⟩), (80, ⟨Try.t80.desc, Try.t80⟩), (81, ⟨Try.t80.desc, Try.t81⟩), (84, ⟨Try.t84.desc, Try.t84⟩), (85, ⟨Try.t84.desc, Try.t85⟩), (86, ⟨Try.t86.desc, Try.t86⟩), (89, ⟨Try.t89.desc, Try.t89⟩), (92, ⟨Try.t92.desc, Try.t92⟩), (93, ⟨Try.t93.desc, Try.t93⟩), (94, ⟨Try.t94.desc, Try.t94⟩), (95, ⟨Try.t95.desc, Try.t95⟩), (96, ⟨Try.t95.desc, Try.t96⟩), (98, ⟨Try.t98.desc, Try.t98⟩), (106, ⟨Try.t106.desc, Try.t106⟩), (117, ⟨Try.t117.desc, Try.t117⟩), (121, ⟨Try.t121.desc, Try.t121⟩), (124, ⟨Try.t3.desc, Try.t124⟩), (131, ⟨Try.t131.desc, Try.t131⟩), (133, ⟨Try.t133.desc, Try.t133⟩), (134, ⟨Try.t133.desc, Try.t134⟩), (138, ⟨Try.t138.desc, Try.t138⟩)]
theorem tyOK : TyOK Try.prog (lookT tyL) := lookT_ok ⟨⟨Try.underlying3, info_of Try.type3, fun h => nomatch h⟩, ⟨Try.underlying4, info_of Try.type4, fun h => nomatch h⟩, ⟨Try.underlying5, info_of Try.type5, fun h => nomatch h⟩, ⟨Try.underlying9, info_of Try.type9, fun h => nomatch h⟩, ⟨Try.underlying22, info_of Try.type22, fun h => nomatch h⟩, ⟨Try.underlying23, info_of Try.type23, fun h => nomatch h⟩, ⟨Try.underlying24, info_of Try.type24, fun _ => ⟨by kernel_rfl, by kernel_rfl⟩⟩, ⟨Try.underlying25, info_of Try.type25, fun _ => ⟨by kernel_rfl, by kernel_rfl⟩⟩, ⟨Try.underlying26, info_of Try.type26, fun _ => ⟨by kernel_rfl, by kernel_rfl⟩⟩, ⟨Try.underlying27, info_of Try.type27, fun _ => ⟨by kernel_rfl, by kernel_rfl⟩⟩, ⟨Try.underlying31, info_of Try.type31, fun _ => ⟨by kernel_rfl, by kernel_rfl⟩⟩, ⟨Try.underlying32, info_of Try.type32, fun _ => ⟨by kernel_rfl, by kernel_rfl⟩⟩, ⟨Try.underlying33, info_of Try.type33, fun h => nomatch h⟩, ⟨Try.underlying36, info_of Try.type36, fun h => nomatch h⟩, ⟨Try.underlying40, info_of Try.type40, fun h => nomatch h⟩, ⟨Try.underlying73, info_of Try.type73, fun h => nomatch h⟩, ⟨Try.underlying78, info_of Try.type78, fun h => nomatch h⟩, ⟨Try.underlying79, info_of Try.type79, fun h => nomatch h⟩, ⟨Try.underlying80, info_of Try.type80, fun _ => ⟨by kernel_rfl, by kernel_rfl⟩⟩, ⟨Try.underlying81, info_of Try.type81, fun _ => ⟨by kernel_rfl, by kernel_rfl⟩⟩, ⟨Try.underlying84, info_of Try.type84, fun _ => ⟨by kernel_rfl, by kernel_rfl⟩⟩, ⟨Try.underlying85, info_of Try.type85, fun _ => ⟨by kernel_rfl, by kernel_rfl⟩⟩, ⟨Try.underlying86, info_of Try.type86, fun h => nomatch h⟩, ⟨Try.underlying89, info_of Try.type89, fun h => nomatch h⟩, ⟨Try.underlying92, info_of Try.type92, fun h => nomatch h⟩, ⟨Try.underlying93, info_of Try.type93, fun h => nomatch h⟩, ⟨Try.underlying94, info_of Try.type94, fun h => nomatch h⟩, ⟨Try.underlying95, info_of Try.type95, fun _ => ⟨by kernel_rfl, by kernel_rfl⟩⟩, ⟨Try.underlying96, info_of Try.type96, fun _ => ⟨by kernel_rfl, by kernel_rfl⟩⟩, ⟨Try.underlying98, info_of Try.type98, fun _ => ⟨by kernel_rfl, by kernel_rfl⟩⟩, ⟨Try.underlying106, info_of Try.type106, fun h => nomatch h⟩, ⟨Try.underlying117, info_of Try.type117, fun h => nomatch h⟩, ⟨Try.underlying121, info_of Try.type121, fun h => nomatch h⟩, ⟨Try.underlying124, info_of Try.type124, fun h => nomatch h⟩, ⟨Try.underlying131, info_of Try.type131, fun h => nomatch h⟩, ⟨Try.underlying133, info_of Try.type133, fun h => nomatch h⟩, ⟨Try.underlying134, info_of Try.type134, fun h => nomatch h⟩, ⟨Try.underlying138, info_of Try.type138, fun h => nomatch h⟩, trivial⟩
end Go.EV
namespace Go.EV
open Go Go.Proofs Go.RowKit
set_option maxHeartbeats 4000000
set_option maxRecDepth 100000
set_option linter.unusedVariables false
theorem mixedOK : Try.prog.follows .mixedOrders = true := Try.checked.mixed
noncomputable def B : Bs := noB
noncomputable def fam {ρ : Type} (fn : Func) (cut : List Nat) (own : List Nat) (L0 : List (Nat × Ob)) (V : ρ → AV) (O : ρ → List (Nat × Ob)) : Fam ρ :=
  ⟨Try.prog, ⟨lookT tyL, fun i => own.any (Nat.beq i), fn.ntmps, fun i => cut.any (Nat.beq i)⟩, fn, L0, V, O, tyOK, mixedOK, B⟩
def rd (l : List Int) (i : Int) : Int := l.getD i.toNat 0
def rdE {α : Type} (E : Enc α) (l : List α) (i : Int) : α := l.getD i.toNat E.d
end Go.EV
