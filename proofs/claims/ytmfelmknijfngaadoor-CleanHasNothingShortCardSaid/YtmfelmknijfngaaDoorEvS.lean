/- The types of this program that its functions name, and what is known of its variables. -/
import Derived.Test.YtmfelmknijfngaaDoorEvB
import Derived.Test.YtmfelmknijfngaaDoorProg
import Derived.Test.YtmfelmknijfngaaDoorChecked
import Derived.Test.YtmfelmknijfngaaDoorWShelf
import Derived.Lib.SplitLaws
set_option linter.unusedVariables false
set_option linter.unusedSimpArgs false
namespace Go.EV
open Go Go.Proofs
noncomputable def tyL : List (Nat × TI) := [(3, ⟨Tryd.t3.desc, Tryd.t3⟩), (4, ⟨Tryd.t4.desc, Tryd.t4⟩), (5, ⟨Tryd.t5.desc, Tryd.t5⟩), (9, ⟨Tryd.t9.desc, Tryd.t9⟩), (21, ⟨Tryd.t21.desc, Tryd.t21⟩), (22, ⟨Tryd.t22.desc, Tryd.t22⟩), (23, ⟨Tryd.t23.desc, Tryd.t23⟩), (24, ⟨Tryd.t24.desc, Tryd.t24⟩), (25, ⟨Tryd.t24.desc, Tryd.t25⟩), (28, ⟨Tryd.t3.desc, Tryd.t28⟩), (34, ⟨Tryd.t34.desc, Tryd.t34⟩), (35, ⟨Tryd.t34.desc, Tryd.t35⟩), (54, ⟨Tryd.t54.desc, Tryd.t54⟩), (55, ⟨Tryd.t55.desc, Tryd.t55⟩), (56, ⟨Tryd.t55.desc, Tryd.t56⟩), (65, ⟨Tryd.t65.desc, Tryd.t65⟩), (66, ⟨Tryd.t65.desc, Tryd.t66⟩), (72, ⟨Tryd.t72.desc, Tryd.t72⟩), (81, ⟨Tryd.t81.desc, Tryd.t81⟩), (82, ⟨Tryd.t82.desc, Tryd.t82⟩), (83, ⟨Tryd.t83.desc, Tryd.t83⟩), (84, ⟨Tryd.t84.desc, Tryd.t84⟩), (85, ⟨Tryd.t84.desc, Tryd.t85⟩), (87, ⟨Tryd.t87.desc, Tryd.t87⟩), (88, ⟨Tryd.t87.desc, Tryd.t88⟩), (91, ⟨Tryd.t91.desc, Tryd.t91⟩), (99, ⟨Tryd.t99.desc, Tryd.t99⟩), (105, ⟨Tryd.t105.desc, Tryd.t105⟩), (107, ⟨Tryd.t107.desc, Tryd.t107⟩), (109, ⟨Tryd.t109.desc, Tryd.t109⟩), (114, ⟨Tryd.t114.desc, Tryd.t114⟩), (115, ⟨Tryd.t114.desc, Tryd.t115⟩), (120, ⟨Tryd.t120.desc, Tryd.t120⟩), (121, ⟨Tryd.t120.desc, Tryd.t121⟩), (125, ⟨Tryd.t125.desc, Tryd.t125⟩), (128, ⟨Tryd.t128.desc, Tryd.t128⟩), (129, ⟨Tryd.t128.desc, Tryd.t129⟩), (133, ⟨Tryd.t133.desc, Tryd.t133⟩), (138, ⟨Tryd.t138.desc, Tryd.t138⟩), (145, ⟨Tryd.t145.desc, Tryd.t145⟩), (153, ⟨Tryd.t153.desc, Tryd.t153⟩), (154, ⟨Tryd.t154.desc, Tryd.t154⟩), (155, ⟨Tryd.t155.desc, Tryd.t155⟩), (156, ⟨Tryd.t155.desc, Tryd.t156⟩), (157, ⟨Tryd.t157.desc, Tryd.t157⟩), (159, ⟨Tryd.t159.desc, Tryd.t159⟩), (167, ⟨Tryd.t167.desc, Tryd.t167⟩), (168, ⟨Tryd.t168.desc, Tryd.t168⟩), (169, ⟨Tryd.t169.desc, Tryd.t169⟩), (170, ⟨Tryd.t169.desc, Tryd.t170⟩), (171, ⟨Tryd.t171.desc, Tryd.t171⟩), (172, ⟨Tryd.t172.desc, Tryd.t172⟩), (173, ⟨Tryd.t172.desc, Tryd.t173⟩), (175, ⟨Tryd.t175.desc, Tryd.t175⟩), (176, ⟨Tryd.t175.desc, Tryd.t176⟩), (181, ⟨Tryd.t181.desc, Tryd.t181⟩), (182, ⟨Tryd.t181.desc, Tryd.t182⟩), (183, ⟨Tryd.t183.desc, Tryd.t183⟩)]
theorem tyOK : TyOK Tryd.prog (lookT tyL) := lookT_ok ⟨⟨Tryd.underlying3, info_of Tryd.type3, fun h => nomatch h⟩, ⟨Tryd.underlying4, info_of Tryd.type4, fun h => nomatch h⟩, ⟨Tryd.underlying5, info_of Tryd.type5, fun h => nomatch h⟩, ⟨Tryd.underlying9, info_of Tryd.type9, fun h => nomatch h⟩, ⟨Tryd.underlying21, info_of Tryd.type21, fun h => nomatch h⟩, ⟨Tryd.underlying22, info_of Tryd.type22, fun h => nomatch h⟩, ⟨Tryd.underlying23, info_of Tryd.type23, fun h => nomatch h⟩, ⟨Tryd.underlying24, info_of Tryd.type24, fun _ => ⟨by kernel_rfl, by kernel_rfl⟩⟩, ⟨Tryd.underlying25, info_of Tryd.type25, fun _ => ⟨by kernel_rfl, by kernel_rfl⟩⟩, ⟨Tryd.underlying28, info_of Tryd.type28, fun h => nomatch h⟩, ⟨Tryd.underlying34, info_of Tryd.type34, fun _ => ⟨by kernel_rfl, by kernel_rfl⟩⟩, ⟨Tryd.underlying35, info_of Tryd.type35, fun _ => ⟨by kernel_rfl, by kernel_rfl⟩⟩, ⟨Tryd.underlying54, info_of Tryd.type54, fun h => nomatch h⟩, ⟨Tryd.underlying55, info_of Tryd.type55, fun _ => ⟨by kernel_rfl, by kernel_rfl⟩⟩, ⟨Tryd.underlying56, info_of Tryd.type56, fun _ => ⟨by kernel_rfl, by kernel_rfl⟩⟩, ⟨Tryd.underlying65, info_of Tryd.type65, fun _ => ⟨by kernel_rfl, by kernel_rfl⟩⟩, ⟨Tryd.underlying66, info_of Tryd.type66, fun _ => ⟨by kernel_rfl, by kernel_rfl⟩⟩, ⟨Tryd.underlying72, info_of Tryd.type72, fun h => nomatch h⟩, ⟨Tryd.underlying81, info_of Tryd.type81, fun h => nomatch h⟩, ⟨Tryd.underlying82, info_of Tryd.type82, fun h => nomatch h⟩, ⟨Tryd.underlying83, info_of Tryd.type83, fun h => nomatch h⟩, ⟨Tryd.underlying84, info_of Tryd.type84, fun _ => ⟨by kernel_rfl, by kernel_rfl⟩⟩, ⟨Tryd.underlying85, info_of Tryd.type85, fun _ => ⟨by kernel_rfl, by kernel_rfl⟩⟩, ⟨Tryd.underlying87, info_of Tryd.type87, fun h => nomatch h⟩, ⟨Tryd.underlying88, info_of Tryd.type88, fun h => nomatch h⟩, ⟨Tryd.underlying91, info_of Tryd.type91, fun h => nomatch h⟩, ⟨Tryd.underlying99, info_of Tryd.type99, fun h => nomatch h⟩, ⟨Tryd.underlying105, info_of Tryd.type105, fun h => nomatch h⟩, ⟨Tryd.underlying107, info_of Tryd.type107, fun h => nomatch h⟩, ⟨Tryd.underlying109, info_of Tryd.type109, fun h => nomatch h⟩, ⟨Tryd.underlying114, info_of Tryd.type114, fun _ => ⟨by kernel_rfl, by kernel_rfl⟩⟩, ⟨Tryd.underlying115, info_of Tryd.type115, fun _ => ⟨by kernel_rfl, by kernel_rfl⟩⟩, ⟨Tryd.underlying120, info_of Tryd.type120, fun _ => ⟨by kernel_rfl, by kernel_rfl⟩⟩, ⟨Tryd.underlying121, info_of Tryd.type121, fun _ => ⟨by kernel_rfl, by kernel_rfl⟩⟩, ⟨Tryd.underlying125, info_of Tryd.type125, fun h => nomatch h⟩, ⟨Tryd.underlying128, info_of Tryd.type128, fun _ => ⟨by kernel_rfl, by kernel_rfl⟩⟩, ⟨Tryd.underlying129, info_of Tryd.type129, fun _ => ⟨by kernel_rfl, by kernel_rfl⟩⟩, ⟨Tryd.underlying133, info_of Tryd.type133, fun h => nomatch h⟩, ⟨Tryd.underlying138, info_of Tryd.type138, fun _ => ⟨by kernel_rfl, by kernel_rfl⟩⟩, ⟨Tryd.underlying145, info_of Tryd.type145, fun h => nomatch h⟩, ⟨Tryd.underlying153, info_of Tryd.type153, fun h => nomatch h⟩, ⟨Tryd.underlying154, info_of Tryd.type154, fun h => nomatch h⟩, ⟨Tryd.underlying155, info_of Tryd.type155, fun _ => ⟨by kernel_rfl, by kernel_rfl⟩⟩, ⟨Tryd.underlying156, info_of Tryd.type156, fun _ => ⟨by kernel_rfl, by kernel_rfl⟩⟩, ⟨Tryd.underlying157, info_of Tryd.type157, fun h => nomatch h⟩, ⟨Tryd.underlying159, info_of Tryd.type159, fun h => nomatch h⟩, ⟨Tryd.underlying167, info_of Tryd.type167, fun h => nomatch h⟩, ⟨Tryd.underlying168, info_of Tryd.type168, fun h => nomatch h⟩, ⟨Tryd.underlying169, info_of Tryd.type169, fun _ => ⟨by kernel_rfl, by kernel_rfl⟩⟩, ⟨Tryd.underlying170, info_of Tryd.type170, fun _ => ⟨by kernel_rfl, by kernel_rfl⟩⟩, ⟨Tryd.underlying171, info_of Tryd.type171, fun h => nomatch h⟩, ⟨Tryd.underlying172, info_of Tryd.type172, fun _ => ⟨by kernel_rfl, by kernel_rfl⟩⟩, ⟨Tryd.underlying173, info_of Tryd.type173, fun _ => ⟨by kernel_rfl, by kernel_rfl⟩⟩, ⟨Tryd.underlying175, info_of Tryd.type175, fun _ => ⟨by kernel_rfl, by kernel_rfl⟩⟩, ⟨Tryd.underlying176, info_of Tryd.type176, fun _ => ⟨by kernel_rfl, by kernel_rfl⟩⟩, ⟨Tryd.underlying181, info_of Tryd.type181, fun _ => ⟨by kernel_rfl, by kernel_rfl⟩⟩, ⟨Tryd.underlying182, info_of Tryd.type182, fun _ => ⟨by kernel_rfl, by kernel_rfl⟩⟩, ⟨Tryd.underlying183, info_of Tryd.type183, fun _ => ⟨by kernel_rfl, by kernel_rfl⟩⟩, trivial⟩
end Go.EV
namespace Go.EV
open Go Go.Proofs Go.RowKit
set_option maxHeartbeats 4000000
set_option maxRecDepth 100000
set_option linter.unusedVariables false
theorem mixedOK : Tryd.prog.follows .mixedOrders = true := Tryd.checked.mixed
theorem frame_asc {w w' : World} (h : w'.heap[0]? = w.heap[0]?) (ht : Lib.TabIs Tryd.prog w "strings.asciiSpace" .u8 Lib.asciiSpaceTab) : Lib.TabIs Tryd.prog w' "strings.asciiSpace" .u8 Lib.asciiSpaceTab := by
  unfold Lib.TabIs World.var? at ht ⊢
  rw [show Tryd.prog.globalNamed "strings.asciiSpace" = some 0 by kernel_rfl] at ht ⊢
  simpa [h] using ht
noncomputable def B : Bs := blkB [2, 0] (fun w => (∃ m, w.cell? ⟨2, 0, none⟩ = some (.int .i64 m)) ∧ Lib.TabIs Tryd.prog w "strings.asciiSpace" .u8 Lib.asciiSpaceTab)
  (fun w w' h ⟨⟨m, h1⟩, h2⟩ => ⟨⟨m, by rw [cell_eq (h 2 (by simp))]; exact h1⟩, frame_asc (h 0 (by simp)) h2⟩)
theorem hbML {g : G} {w : World} (hb : B.p g w) : ∃ m, w.cell? ⟨2, 0, none⟩ = some (.int .i64 m) := hb.2.1
theorem hbAsc {g : G} {w : World} (hb : B.p g w) : Lib.TabIs Tryd.prog w "strings.asciiSpace" .u8 Lib.asciiSpaceTab := hb.2.2
noncomputable def fam {ρ : Type} (fn : Func) (cut : List Nat) (own : List Nat) (L0 : List (Nat × Ob)) (V : ρ → AV) (O : ρ → List (Nat × Ob)) : Fam ρ :=
  ⟨Tryd.prog, ⟨lookT tyL, fun i => own.any (Nat.beq i), fn.ntmps, fun i => cut.any (Nat.beq i)⟩, fn, L0, V, O, tyOK, mixedOK, B⟩
def rd (l : List Int) (i : Int) : Int := l.getD i.toNat 0
def rdE {α : Type} (E : Enc α) (l : List α) (i : Int) : α := l.getD i.toNat E.d
theorem B_of {W : World} (hsh : W.ShapedOpen Tryd.prog) (hasc : Lib.TabIs Tryd.prog W "strings.asciiSpace" .u8 Lib.asciiSpaceTab) : ∀ g : G, (∀ b, ¬ g.own b) → B.p g W := fun g hg => by
  obtain ⟨m, hm⟩ := Tryd.laysM219.s1_3 W hsh
  have hm : W.cell? ⟨2, 0, none⟩ = some (.int .i64 m) := hm
  refine ⟨fun b hb => ⟨?_, hg b⟩, ⟨⟨m, hm⟩, hasc⟩⟩
  have h0 : 2 < W.heap.size := by
    unfold World.cell? at hm
    cases e : W.heap[2]? with
    | none => rw [show (⟨2, 0, none⟩ : Addr).block = 2 from rfl, e] at hm; cases hm
    | some _ => exact (Array.getElem?_eq_some_iff.1 e).1
  have basc : 0 < W.heap.size := by
    have ht := hasc
    unfold Lib.TabIs World.var? at ht
    rw [show Tryd.prog.globalNamed "strings.asciiSpace" = some 0 by kernel_rfl] at ht
    cases e : W.heap[0]? with
    | none => simp [e] at ht
    | some _ => exact (Array.getElem?_eq_some_iff.1 e).1
  simp only [List.mem_cons, List.not_mem_nil, or_false] at hb
  rcases hb with rfl | rfl
  · exact h0
  · exact basc
theorem tab_asc {W : World} {d : DataW Unit} (hd : d = Lib.tabData .u8 Lib.asciiSpaceTab) {l : List (String × DataW Unit)} {ps : List MemPlace} (hl : DataW.LaidVars Tryd.prog W l ps) (h : ("strings.asciiSpace", d) ∈ l) : Lib.TabIs Tryd.prog W "strings.asciiSpace" .u8 Lib.asciiSpaceTab :=
  tabIs_of_mem (g := 0) (by kernel_rfl) (t := 138) (e := 5) (n := 256) (by kernel_rfl) Tryd.underlying138 Tryd.underlying5 (by kernel_rfl) (by kernel_rfl) hd hl h
end Go.EV
