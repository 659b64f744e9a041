/- The types of this program that its functions name, and what is known of its variables. -/
import Derived.Test.YtacgcamgfkjbiaaGreatDoorEvB
import Derived.Test.YtacgcamgfkjbiaaGreatDoorProg
import Derived.Test.YtacgcamgfkjbiaaGreatDoorChecked
import Derived.Test.YtacgcamgfkjbiaaGreatDoorWShelf
import Derived.Lib.SplitLaws
import Derived.Shelf.Strings.SlTrimAscii
set_option linter.unusedVariables false
set_option linter.unusedSimpArgs false
namespace Go.EV
open Go Go.Proofs
noncomputable def tyL : List (Nat × TI) := [(3, ⟨Tryz.t3.desc, Tryz.t3⟩), (4, ⟨Tryz.t4.desc, Tryz.t4⟩), (5, ⟨Tryz.t5.desc, Tryz.t5⟩), (9, ⟨Tryz.t9.desc, Tryz.t9⟩), (21, ⟨Tryz.t21.desc, Tryz.t21⟩), (22, ⟨Tryz.t22.desc, Tryz.t22⟩), (23, ⟨Tryz.t23.desc, Tryz.t23⟩), (24, ⟨Tryz.t24.desc, Tryz.t24⟩), (25, ⟨Tryz.t24.desc, Tryz.t25⟩), (26, ⟨Tryz.t26.desc, Tryz.t26⟩), (27, ⟨Tryz.t26.desc, Tryz.t27⟩), (31, ⟨Tryz.t3.desc, Tryz.t31⟩), (34, ⟨Tryz.t34.desc, Tryz.t34⟩), (40, ⟨Tryz.t40.desc, Tryz.t40⟩), (43, ⟨Tryz.t43.desc, Tryz.t43⟩), (46, ⟨Tryz.t46.desc, Tryz.t46⟩), (47, ⟨Tryz.t46.desc, Tryz.t47⟩), (54, ⟨Tryz.t54.desc, Tryz.t54⟩), (57, ⟨Tryz.t57.desc, Tryz.t57⟩), (58, ⟨Tryz.t57.desc, Tryz.t58⟩), (64, ⟨Tryz.t64.desc, Tryz.t64⟩), (68, ⟨Tryz.t68.desc, Tryz.t68⟩), (69, ⟨Tryz.t68.desc, Tryz.t69⟩), (80, ⟨Tryz.t80.desc, Tryz.t80⟩), (84, ⟨Tryz.t84.desc, Tryz.t84⟩), (88, ⟨Tryz.t88.desc, Tryz.t88⟩), (89, ⟨Tryz.t88.desc, Tryz.t89⟩), (101, ⟨Tryz.t101.desc, Tryz.t101⟩), (111, ⟨Tryz.t111.desc, Tryz.t111⟩), (114, ⟨Tryz.t3.desc, Tryz.t114⟩), (121, ⟨Tryz.t121.desc, Tryz.t121⟩), (123, ⟨Tryz.t123.desc, Tryz.t123⟩), (130, ⟨Tryz.t130.desc, Tryz.t130⟩), (132, ⟨Tryz.t132.desc, Tryz.t132⟩), (135, ⟨Tryz.t135.desc, Tryz.t135⟩), (136, ⟨Tryz.t135.desc, Tryz.t136⟩), (140, ⟨Tryz.t140.desc, Tryz.t140⟩), (143, ⟨Tryz.t123.desc, Tryz.t143⟩), (147, ⟨Tryz.t147.desc, Tryz.t147⟩), (152, ⟨Tryz.t152.desc, Tryz.t152⟩), (154, ⟨Tryz.t154.desc, Tryz.t154⟩), (155, ⟨Tryz.t154.desc, Tryz.t155⟩), (175, ⟨Tryz.t175.desc, Tryz.t175⟩), (177, ⟨Tryz.t177.desc, Tryz.t177⟩), (178, ⟨Tryz.t178.desc, Tryz.t178⟩), (179, ⟨Tryz.t178.desc, Tryz.t179⟩), (180, ⟨Tryz.t180.desc, Tryz.t180⟩), (185, ⟨Tryz.t185.desc, Tryz.t185⟩), (186, ⟨Tryz.t186.desc, Tryz.t186⟩), (187, ⟨Tryz.t186.desc, Tryz.t187⟩), (189, ⟨Tryz.t189.desc, Tryz.t189⟩), (190, ⟨Tryz.t190.desc, Tryz.t190⟩), (191, ⟨Tryz.t191.desc, Tryz.t191⟩), (192, ⟨Tryz.t192.desc, Tryz.t192⟩), (193, ⟨Tryz.t192.desc, Tryz.t193⟩), (194, ⟨Tryz.t194.desc, Tryz.t194⟩), (195, ⟨Tryz.t195.desc, Tryz.t195⟩), (196, ⟨Tryz.t195.desc, Tryz.t196⟩), (198, ⟨Tryz.t198.desc, Tryz.t198⟩), (199, ⟨Tryz.t198.desc, Tryz.t199⟩)]
theorem tyOK : TyOK Tryz.prog (lookT tyL) := lookT_ok ⟨⟨Tryz.underlying3, info_of Tryz.type3, fun h => nomatch h⟩, ⟨Tryz.underlying4, info_of Tryz.type4, fun h => nomatch h⟩, ⟨Tryz.underlying5, info_of Tryz.type5, fun h => nomatch h⟩, ⟨Tryz.underlying9, info_of Tryz.type9, fun h => nomatch h⟩, ⟨Tryz.underlying21, info_of Tryz.type21, fun h => nomatch h⟩, ⟨Tryz.underlying22, info_of Tryz.type22, fun h => nomatch h⟩, ⟨Tryz.underlying23, info_of Tryz.type23, fun h => nomatch h⟩, ⟨Tryz.underlying24, info_of Tryz.type24, fun _ => ⟨by kernel_rfl, by kernel_rfl⟩⟩, ⟨Tryz.underlying25, info_of Tryz.type25, fun _ => ⟨by kernel_rfl, by kernel_rfl⟩⟩, ⟨Tryz.underlying26, info_of Tryz.type26, fun _ => ⟨by kernel_rfl, by kernel_rfl⟩⟩, ⟨Tryz.underlying27, info_of Tryz.type27, fun _ => ⟨by kernel_rfl, by kernel_rfl⟩⟩, ⟨Tryz.underlying31, info_of Tryz.type31, fun h => nomatch h⟩, ⟨Tryz.underlying34, info_of Tryz.type34, fun h => nomatch h⟩, ⟨Tryz.underlying40, info_of Tryz.type40, fun h => nomatch h⟩, ⟨Tryz.underlying43, info_of Tryz.type43, fun h => nomatch h⟩, ⟨Tryz.underlying46, info_of Tryz.type46, fun _ => ⟨by kernel_rfl, by kernel_rfl⟩⟩, ⟨Tryz.underlying47, info_of Tryz.type47, fun _ => ⟨by kernel_rfl, by kernel_rfl⟩⟩, ⟨Tryz.underlying54, info_of Tryz.type54, fun h => nomatch h⟩, ⟨Tryz.underlying57, info_of Tryz.type57, fun _ => ⟨by kernel_rfl, by kernel_rfl⟩⟩, ⟨Tryz.underlying58, info_of Tryz.type58, fun _ => ⟨by kernel_rfl, by kernel_rfl⟩⟩, ⟨Tryz.underlying64, info_of Tryz.type64, fun h => nomatch h⟩, ⟨Tryz.underlying68, info_of Tryz.type68, fun _ => ⟨by kernel_rfl, by kernel_rfl⟩⟩, ⟨Tryz.underlying69, info_of Tryz.type69, fun _ => ⟨by kernel_rfl, by kernel_rfl⟩⟩, ⟨Tryz.underlying80, info_of Tryz.type80, fun h => nomatch h⟩, ⟨Tryz.underlying84, info_of Tryz.type84, fun h => nomatch h⟩, ⟨Tryz.underlying88, info_of Tryz.type88, fun h => nomatch h⟩, ⟨Tryz.underlying89, info_of Tryz.type89, fun h => nomatch h⟩, ⟨Tryz.underlying101, info_of Tryz.type101, fun h => nomatch h⟩, ⟨Tryz.underlying111, info_of Tryz.type111, fun h => nomatch h⟩, ⟨Tryz.underlying114, info_of Tryz.type114, fun h => nomatch h⟩, ⟨Tryz.underlying121, info_of Tryz.type121, fun h => nomatch h⟩, ⟨Tryz.underlying123, info_of Tryz.type123, fun h => nomatch h⟩, ⟨Tryz.underlying130, info_of Tryz.type130, fun h => nomatch h⟩, ⟨Tryz.underlying132, info_of Tryz.type132, fun h => nomatch h⟩, ⟨Tryz.underlying135, info_of Tryz.type135, fun _ => ⟨by kernel_rfl, by kernel_rfl⟩⟩, ⟨Tryz.underlying136, info_of Tryz.type136, fun _ => ⟨by kernel_rfl, by kernel_rfl⟩⟩, ⟨Tryz.underlying140, info_of Tryz.type140, fun h => nomatch h⟩, ⟨Tryz.underlying143, info_of Tryz.type143, fun h => nomatch h⟩, ⟨Tryz.underlying147, info_of Tryz.type147, fun h => nomatch h⟩, ⟨Tryz.underlying152, info_of Tryz.type152, fun h => nomatch h⟩, ⟨Tryz.underlying154, info_of Tryz.type154, fun _ => ⟨by kernel_rfl, by kernel_rfl⟩⟩, ⟨Tryz.underlying155, info_of Tryz.type155, fun _ => ⟨by kernel_rfl, by kernel_rfl⟩⟩, ⟨Tryz.underlying175, info_of Tryz.type175, fun _ => ⟨by kernel_rfl, by kernel_rfl⟩⟩, ⟨Tryz.underlying177, info_of Tryz.type177, fun h => nomatch h⟩, ⟨Tryz.underlying178, info_of Tryz.type178, fun _ => ⟨by kernel_rfl, by kernel_rfl⟩⟩, ⟨Tryz.underlying179, info_of Tryz.type179, fun _ => ⟨by kernel_rfl, by kernel_rfl⟩⟩, ⟨Tryz.underlying180, info_of Tryz.type180, fun _ => ⟨by kernel_rfl, by kernel_rfl⟩⟩, ⟨Tryz.underlying185, info_of Tryz.type185, fun h => nomatch h⟩, ⟨Tryz.underlying186, info_of Tryz.type186, fun _ => ⟨by kernel_rfl, by kernel_rfl⟩⟩, ⟨Tryz.underlying187, info_of Tryz.type187, fun _ => ⟨by kernel_rfl, by kernel_rfl⟩⟩, ⟨Tryz.underlying189, info_of Tryz.type189, fun h => nomatch h⟩, ⟨Tryz.underlying190, info_of Tryz.type190, fun h => nomatch h⟩, ⟨Tryz.underlying191, info_of Tryz.type191, fun h => nomatch h⟩, ⟨Tryz.underlying192, info_of Tryz.type192, fun _ => ⟨by kernel_rfl, by kernel_rfl⟩⟩, ⟨Tryz.underlying193, info_of Tryz.type193, fun _ => ⟨by kernel_rfl, by kernel_rfl⟩⟩, ⟨Tryz.underlying194, info_of Tryz.type194, fun h => nomatch h⟩, ⟨Tryz.underlying195, info_of Tryz.type195, fun _ => ⟨by kernel_rfl, by kernel_rfl⟩⟩, ⟨Tryz.underlying196, info_of Tryz.type196, fun _ => ⟨by kernel_rfl, by kernel_rfl⟩⟩, ⟨Tryz.underlying198, info_of Tryz.type198, fun _ => ⟨by kernel_rfl, by kernel_rfl⟩⟩, ⟨Tryz.underlying199, info_of Tryz.type199, fun _ => ⟨by kernel_rfl, by kernel_rfl⟩⟩, trivial⟩
end Go.EV
namespace Go.EV
open Go Go.Proofs Go.RowKit
set_option maxHeartbeats 4000000
set_option maxRecDepth 100000
set_option linter.unusedVariables false
theorem mixedOK : Tryz.prog.follows .mixedOrders = true := Tryz.checked.mixed
theorem frame_asc {w w' : World} (h : w'.heap[1]? = w.heap[1]?) (ht : Lib.TabIs Tryz.prog w "strings.asciiSpace" .u8 Lib.asciiSpaceTab) : Lib.TabIs Tryz.prog w' "strings.asciiSpace" .u8 Lib.asciiSpaceTab := by
  unfold Lib.TabIs World.var? at ht ⊢
  rw [show Tryz.prog.globalNamed "strings.asciiSpace" = some 1 by kernel_rfl] at ht ⊢
  simpa [h] using ht
noncomputable def B : Bs := blkB [0, 1] (fun w => (∃ m, w.cell? ⟨0, 0, none⟩ = some (.int .i64 m)) ∧ Lib.TabIs Tryz.prog w "strings.asciiSpace" .u8 Lib.asciiSpaceTab)
  (fun w w' h ⟨⟨m, h1⟩, h2⟩ => ⟨⟨m, by rw [cell_eq (h 0 (by simp))]; exact h1⟩, frame_asc (h 1 (by simp)) h2⟩)
theorem hbML {g : G} {w : World} (hb : B.p g w) : ∃ m, w.cell? ⟨0, 0, none⟩ = some (.int .i64 m) := hb.2.1
theorem hbAsc {g : G} {w : World} (hb : B.p g w) : Lib.TabIs Tryz.prog w "strings.asciiSpace" .u8 Lib.asciiSpaceTab := hb.2.2
noncomputable def fam {ρ : Type} (fn : Func) (cut : List Nat) (own : List Nat) (L0 : List (Nat × Ob)) (V : ρ → AV) (O : ρ → List (Nat × Ob)) : Fam ρ :=
  ⟨Tryz.prog, ⟨lookT tyL, fun i => own.any (Nat.beq i), fn.ntmps, fun i => cut.any (Nat.beq i)⟩, fn, L0, V, O, tyOK, mixedOK, B⟩
def rd (l : List Int) (i : Int) : Int := l.getD i.toNat 0
def rdE {α : Type} (E : Enc α) (l : List α) (i : Int) : α := l.getD i.toNat E.d
theorem B_of {W : World} (hsh : W.ShapedOpen Tryz.prog) (hasc : Lib.TabIs Tryz.prog W "strings.asciiSpace" .u8 Lib.asciiSpaceTab) : ∀ g : G, (∀ b, ¬ g.own b) → B.p g W := fun g hg => by
  obtain ⟨m, hm⟩ := Tryz.laysM219.s1_3 W hsh
  have hm : W.cell? ⟨0, 0, none⟩ = some (.int .i64 m) := hm
  refine ⟨fun b hb => ⟨?_, hg b⟩, ⟨⟨m, hm⟩, hasc⟩⟩
  have h0 : 0 < W.heap.size := by
    unfold World.cell? at hm
    cases e : W.heap[0]? with
    | none => rw [show (⟨0, 0, none⟩ : Addr).block = 0 from rfl, e] at hm; cases hm
    | some _ => exact (Array.getElem?_eq_some_iff.1 e).1
  have basc : 1 < W.heap.size := by
    have ht := hasc
    unfold Lib.TabIs World.var? at ht
    rw [show Tryz.prog.globalNamed "strings.asciiSpace" = some 1 by kernel_rfl] at ht
    cases e : W.heap[1]? with
    | none => simp [e] at ht
    | some _ => exact (Array.getElem?_eq_some_iff.1 e).1
  simp only [List.mem_cons, List.not_mem_nil, or_false] at hb
  rcases hb with rfl | rfl
  · exact h0
  · exact basc
theorem tab_asc {W : World} {d : DataW Unit} (hd : d = Lib.tabData .u8 Lib.asciiSpaceTab) {l : List (String × DataW Unit)} {ps : List MemPlace} (hl : DataW.LaidVars Tryz.prog W l ps) (h : ("strings.asciiSpace", d) ∈ l) : Lib.TabIs Tryz.prog W "strings.asciiSpace" .u8 Lib.asciiSpaceTab :=
  tabIs_of_mem (g := 1) (by kernel_rfl) (t := 175) (e := 5) (n := 256) (by kernel_rfl) Tryz.underlying175 Tryz.underlying5 (by kernel_rfl) (by kernel_rfl) hd hl h
end Go.EV
