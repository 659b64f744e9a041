/- The types of this program that its functions name, and what is known of its variables. -/
import Derived.Test.YtonnpocamipbiaaGreatDoorEvB
import Derived.Test.YtonnpocamipbiaaGreatDoorProg
import Derived.Test.YtonnpocamipbiaaGreatDoorChecked
import Derived.Test.YtonnpocamipbiaaGreatDoorWShelf
import Derived.Lib.SplitLaws
set_option linter.unusedVariables false
set_option linter.unusedSimpArgs false
namespace Go.EV
open Go Go.Proofs
noncomputable def tyL : List (Nat × TI) := [(3, ⟨Tryz.t3.desc, Tryz.t3⟩), (4, ⟨Tryz.t4.desc, Tryz.t4⟩), (5, ⟨Tryz.t5.desc, Tryz.t5⟩), (9, ⟨Tryz.t9.desc, Tryz.t9⟩), (21, ⟨Tryz.t21.desc, Tryz.t21⟩), (22, ⟨Tryz.t22.desc, Tryz.t22⟩), (23, ⟨Tryz.t23.desc, Tryz.t23⟩), (24, ⟨Tryz.t24.desc, Tryz.t24⟩), (25, ⟨Tryz.t24.desc, Tryz.t25⟩), (27, ⟨Tryz.t27.desc, Tryz.t27⟩), (28, ⟨Tryz.t27.desc, Tryz.t28⟩), (31, ⟨Tryz.t31.desc, Tryz.t31⟩), (32, ⟨Tryz.t3.desc, Tryz.t32⟩), (43, ⟨Tryz.t43.desc, Tryz.t43⟩), (51, ⟨Tryz.t51.desc, Tryz.t51⟩), (52, ⟨Tryz.t51.desc, Tryz.t52⟩), (56, ⟨Tryz.t56.desc, Tryz.t56⟩), (58, ⟨Tryz.t58.desc, Tryz.t58⟩), (59, ⟨Tryz.t58.desc, Tryz.t59⟩), (66, ⟨Tryz.t66.desc, Tryz.t66⟩), (67, ⟨Tryz.t66.desc, Tryz.t67⟩), (71, ⟨Tryz.t71.desc, Tryz.t71⟩), (73, ⟨Tryz.t73.desc, Tryz.t73⟩), (74, ⟨Tryz.t73.desc, Tryz.t74⟩), (81, ⟨Tryz.t81.desc, Tryz.t81⟩), (82, ⟨Tryz.t81.desc, Tryz.t82⟩), (83, ⟨Tryz.t83.desc, Tryz.t83⟩), (87, ⟨Tryz.t87.desc, Tryz.t87⟩), (88, ⟨Tryz.t88.desc, Tryz.t88⟩), (97, ⟨Tryz.t3.desc, Tryz.t97⟩), (105, ⟨Tryz.t105.desc, Tryz.t105⟩), (107, ⟨Tryz.t107.desc, Tryz.t107⟩), (114, ⟨Tryz.t114.desc, Tryz.t114⟩), (116, ⟨Tryz.t116.desc, Tryz.t116⟩), (123, ⟨Tryz.t107.desc, Tryz.t123⟩), (127, ⟨Tryz.t127.desc, Tryz.t127⟩), (132, ⟨Tryz.t132.desc, Tryz.t132⟩), (134, ⟨Tryz.t134.desc, Tryz.t134⟩), (135, ⟨Tryz.t134.desc, Tryz.t135⟩), (152, ⟨Tryz.t152.desc, Tryz.t152⟩), (153, ⟨Tryz.t152.desc, Tryz.t153⟩), (160, ⟨Tryz.t160.desc, Tryz.t160⟩), (162, ⟨Tryz.t162.desc, Tryz.t162⟩), (168, ⟨Tryz.t168.desc, Tryz.t168⟩), (169, ⟨Tryz.t169.desc, Tryz.t169⟩), (170, ⟨Tryz.t169.desc, Tryz.t170⟩), (172, ⟨Tryz.t172.desc, Tryz.t172⟩), (173, ⟨Tryz.t173.desc, Tryz.t173⟩), (174, ⟨Tryz.t174.desc, Tryz.t174⟩), (175, ⟨Tryz.t175.desc, Tryz.t175⟩), (176, ⟨Tryz.t175.desc, Tryz.t176⟩), (177, ⟨Tryz.t177.desc, Tryz.t177⟩), (178, ⟨Tryz.t178.desc, Tryz.t178⟩), (179, ⟨Tryz.t178.desc, Tryz.t179⟩), (181, ⟨Tryz.t181.desc, Tryz.t181⟩), (182, ⟨Tryz.t181.desc, Tryz.t182⟩), (184, ⟨Tryz.t184.desc, Tryz.t184⟩), (185, ⟨Tryz.t184.desc, Tryz.t185⟩), (186, ⟨Tryz.t186.desc, Tryz.t186⟩)]
theorem tyOK : TyOK Tryz.prog (lookT tyL) := lookT_ok ⟨⟨Tryz.underlying3, info_of Tryz.type3, fun h => nomatch h⟩, ⟨Tryz.underlying4, info_of Tryz.type4, fun h => nomatch h⟩, ⟨Tryz.underlying5, info_of Tryz.type5, fun h => nomatch h⟩, ⟨Tryz.underlying9, info_of Tryz.type9, fun h => nomatch h⟩, ⟨Tryz.underlying21, info_of Tryz.type21, fun h => nomatch h⟩, ⟨Tryz.underlying22, info_of Tryz.type22, fun h => nomatch h⟩, ⟨Tryz.underlying23, info_of Tryz.type23, fun h => nomatch h⟩, ⟨Tryz.underlying24, info_of Tryz.type24, fun _ => ⟨by kernel_rfl, by kernel_rfl⟩⟩, ⟨Tryz.underlying25, info_of Tryz.type25, fun _ => ⟨by kernel_rfl, by kernel_rfl⟩⟩, ⟨Tryz.underlying27, info_of Tryz.type27, fun _ => ⟨by kernel_rfl, by kernel_rfl⟩⟩, ⟨Tryz.underlying28, info_of Tryz.type28, fun _ => ⟨by kernel_rfl, by kernel_rfl⟩⟩, ⟨Tryz.underlying31, info_of Tryz.type31, fun h => nomatch h⟩, ⟨Tryz.underlying32, info_of Tryz.type32, fun h => nomatch h⟩, ⟨Tryz.underlying43, info_of Tryz.type43, fun h => nomatch h⟩, ⟨Tryz.underlying51, info_of Tryz.type51, fun _ => ⟨by kernel_rfl, by kernel_rfl⟩⟩, ⟨Tryz.underlying52, info_of Tryz.type52, fun _ => ⟨by kernel_rfl, by kernel_rfl⟩⟩, ⟨Tryz.underlying56, info_of Tryz.type56, fun h => nomatch h⟩, ⟨Tryz.underlying58, info_of Tryz.type58, fun _ => ⟨by kernel_rfl, by kernel_rfl⟩⟩, ⟨Tryz.underlying59, info_of Tryz.type59, fun _ => ⟨by kernel_rfl, by kernel_rfl⟩⟩, ⟨Tryz.underlying66, info_of Tryz.type66, fun _ => ⟨by kernel_rfl, by kernel_rfl⟩⟩, ⟨Tryz.underlying67, info_of Tryz.type67, fun _ => ⟨by kernel_rfl, by kernel_rfl⟩⟩, ⟨Tryz.underlying71, info_of Tryz.type71, fun h => nomatch h⟩, ⟨Tryz.underlying73, info_of Tryz.type73, fun h => nomatch h⟩, ⟨Tryz.underlying74, info_of Tryz.type74, fun h => nomatch h⟩, ⟨Tryz.underlying81, info_of Tryz.type81, fun _ => ⟨by kernel_rfl, by kernel_rfl⟩⟩, ⟨Tryz.underlying82, info_of Tryz.type82, fun _ => ⟨by kernel_rfl, by kernel_rfl⟩⟩, ⟨Tryz.underlying83, info_of Tryz.type83, fun h => nomatch h⟩, ⟨Tryz.underlying87, info_of Tryz.type87, fun h => nomatch h⟩, ⟨Tryz.underlying88, info_of Tryz.type88, fun h => nomatch h⟩, ⟨Tryz.underlying97, info_of Tryz.type97, fun h => nomatch h⟩, ⟨Tryz.underlying105, info_of Tryz.type105, fun h => nomatch h⟩, ⟨Tryz.underlying107, info_of Tryz.type107, fun h => nomatch h⟩, ⟨Tryz.underlying114, info_of Tryz.type114, fun h => nomatch h⟩, ⟨Tryz.underlying116, info_of Tryz.type116, fun h => nomatch h⟩, ⟨Tryz.underlying123, info_of Tryz.type123, fun h => nomatch h⟩, ⟨Tryz.underlying127, info_of Tryz.type127, fun h => nomatch h⟩, ⟨Tryz.underlying132, info_of Tryz.type132, fun h => nomatch h⟩, ⟨Tryz.underlying134, info_of Tryz.type134, fun _ => ⟨by kernel_rfl, by kernel_rfl⟩⟩, ⟨Tryz.underlying135, info_of Tryz.type135, fun _ => ⟨by kernel_rfl, by kernel_rfl⟩⟩, ⟨Tryz.underlying152, info_of Tryz.type152, fun _ => ⟨by kernel_rfl, by kernel_rfl⟩⟩, ⟨Tryz.underlying153, info_of Tryz.type153, fun _ => ⟨by kernel_rfl, by kernel_rfl⟩⟩, ⟨Tryz.underlying160, info_of Tryz.type160, fun _ => ⟨by kernel_rfl, by kernel_rfl⟩⟩, ⟨Tryz.underlying162, info_of Tryz.type162, fun h => nomatch h⟩, ⟨Tryz.underlying168, info_of Tryz.type168, fun h => nomatch h⟩, ⟨Tryz.underlying169, info_of Tryz.type169, fun _ => ⟨by kernel_rfl, by kernel_rfl⟩⟩, ⟨Tryz.underlying170, info_of Tryz.type170, fun _ => ⟨by kernel_rfl, by kernel_rfl⟩⟩, ⟨Tryz.underlying172, info_of Tryz.type172, fun h => nomatch h⟩, ⟨Tryz.underlying173, info_of Tryz.type173, fun h => nomatch h⟩, ⟨Tryz.underlying174, info_of Tryz.type174, fun h => nomatch h⟩, ⟨Tryz.underlying175, info_of Tryz.type175, fun _ => ⟨by kernel_rfl, by kernel_rfl⟩⟩, ⟨Tryz.underlying176, info_of Tryz.type176, fun _ => ⟨by kernel_rfl, by kernel_rfl⟩⟩, ⟨Tryz.underlying177, info_of Tryz.type177, fun h => nomatch h⟩, ⟨Tryz.underlying178, info_of Tryz.type178, fun _ => ⟨by kernel_rfl, by kernel_rfl⟩⟩, ⟨Tryz.underlying179, info_of Tryz.type179, fun _ => ⟨by kernel_rfl, by kernel_rfl⟩⟩, ⟨Tryz.underlying181, info_of Tryz.type181, fun _ => ⟨by kernel_rfl, by kernel_rfl⟩⟩, ⟨Tryz.underlying182, info_of Tryz.type182, fun _ => ⟨by kernel_rfl, by kernel_rfl⟩⟩, ⟨Tryz.underlying184, info_of Tryz.type184, fun _ => ⟨by kernel_rfl, by kernel_rfl⟩⟩, ⟨Tryz.underlying185, info_of Tryz.type185, fun _ => ⟨by kernel_rfl, by kernel_rfl⟩⟩, ⟨Tryz.underlying186, info_of Tryz.type186, fun _ => ⟨by kernel_rfl, by kernel_rfl⟩⟩, trivial⟩
end Go.EV
namespace Go.EV
open Go Go.Proofs Go.RowKit
set_option maxHeartbeats 4000000
set_option maxRecDepth 100000
set_option linter.unusedVariables false
theorem mixedOK : Tryz.prog.follows .mixedOrders = true := Tryz.checked.mixed
theorem frame_asc {w w' : World} (h : w'.heap[1]? = w.heap[1]?) (ht : Lib.TabIs Tryz.prog w "strings.asciiSpace" .u8 Lib.asciiSpaceTab) : Lib.TabIs Tryz.prog w' "strings.asciiSpace" .u8 Lib.asciiSpaceTab := by
  unfold Lib.TabIs World.var? at ht ⊢
  rw [show Tryz.prog.globalNamed "strings.asciiSpace" = some 1 by kernel_rfl] at ht ⊢
  simpa [h] using ht
noncomputable def B : Bs := blkB [0, 1] (fun w => (∃ m, w.cell? ⟨0, 0, none⟩ = some (.int .i64 m)) ∧ Lib.TabIs Tryz.prog w "strings.asciiSpace" .u8 Lib.asciiSpaceTab)
  (fun w w' h ⟨⟨m, h1⟩, h2⟩ => ⟨⟨m, by rw [cell_eq (h 0 (by simp))]; exact h1⟩, frame_asc (h 1 (by simp)) h2⟩)
theorem hbML {g : G} {w : World} (hb : B.p g w) : ∃ m, w.cell? ⟨0, 0, none⟩ = some (.int .i64 m) := hb.2.1
theorem hbAsc {g : G} {w : World} (hb : B.p g w) : Lib.TabIs Tryz.prog w "strings.asciiSpace" .u8 Lib.asciiSpaceTab := hb.2.2
noncomputable def fam {ρ : Type} (fn : Func) (cut : List Nat) (own : List Nat) (L0 : List (Nat × Ob)) (V : ρ → AV) (O : ρ → List (Nat × Ob)) : Fam ρ :=
  ⟨Tryz.prog, ⟨lookT tyL, fun i => own.any (Nat.beq i), fn.ntmps, fun i => cut.any (Nat.beq i)⟩, fn, L0, V, O, tyOK, mixedOK, B⟩
def rd (l : List Int) (i : Int) : Int := l.getD i.toNat 0
def rdE {α : Type} (E : Enc α) (l : List α) (i : Int) : α := l.getD i.toNat E.d
theorem B_of {W : World} (hsh : W.ShapedOpen Tryz.prog) (hasc : Lib.TabIs Tryz.prog W "strings.asciiSpace" .u8 Lib.asciiSpaceTab) : ∀ g : G, (∀ b, ¬ g.own b) → B.p g W := fun g hg => by
  obtain ⟨m, hm⟩ := Tryz.laysM219.s1_3 W hsh
  have hm : W.cell? ⟨0, 0, none⟩ = some (.int .i64 m) := hm
  refine ⟨fun b hb => ⟨?_, hg b⟩, ⟨⟨m, hm⟩, hasc⟩⟩
  have h0 : 0 < W.heap.size := by
    unfold World.cell? at hm
    cases e : W.heap[0]? with
    | none => rw [show (⟨0, 0, none⟩ : Addr).block = 0 from rfl, e] at hm; cases hm
    | some _ => exact (Array.getElem?_eq_some_iff.1 e).1
  have basc : 1 < W.heap.size := by
    have ht := hasc
    unfold Lib.TabIs World.var? at ht
    rw [show Tryz.prog.globalNamed "strings.asciiSpace" = some 1 by kernel_rfl] at ht
    cases e : W.heap[1]? with
    | none => simp [e] at ht
    | some _ => exact (Array.getElem?_eq_some_iff.1 e).1
  simp only [List.mem_cons, List.not_mem_nil, or_false] at hb
  rcases hb with rfl | rfl
  · exact h0
  · exact basc
theorem tab_asc {W : World} {d : DataW Unit} (hd : d = Lib.tabData .u8 Lib.asciiSpaceTab) {l : List (String × DataW Unit)} {ps : List MemPlace} (hl : DataW.LaidVars Tryz.prog W l ps) (h : ("strings.asciiSpace", d) ∈ l) : Lib.TabIs Tryz.prog W "strings.asciiSpace" .u8 Lib.asciiSpaceTab :=
  tabIs_of_mem (g := 1) (by kernel_rfl) (t := 160) (e := 5) (n := 256) (by kernel_rfl) Tryz.underlying160 Tryz.underlying5 (by kernel_rfl) (by kernel_rfl) hd hl h
end Go.EV
